import Derived.Test.YtcnkojgmochcgaaGreatDoorVrD
import Derived.Test.YtcnkojgmochcgaaGreatDoorLfN
noncomputable section
namespace Go.Proofs.Vq
open Go.Ab Go.Ab.Lf
set_option maxRecDepth 100000
theorem abl(l:List Int):(t83 (l,())).val=
 bI (sV uF [(Ty.int .i64).aC,Ty.int .i64,Ty.int .i64] [] [Ty.bool] (l,(l.length:Int),0,())) (
 bif rH uF [(Ty.int .i64).aC,Ty.int .i64,Ty.int .i64] (l,(l.length:Int),0,())then
  some (aN wQ (true,()))
 else
 some (aN wQ ((hJ uF [(Ty.int .i64).aC,Ty.int .i64,Ty.int .i64] [Ty.bool] (l,(l.length:Int),0,())).1,()))):=by kernel_rfl
theorem Gw(o:Int):(t245 (o,())).val=
 bif decide (o=0)then
  some (aN dU (true,()))
 else
 bif decide (o=12)then
  some (aN dU (true,()))
 else
 bif decide (o=257)then
  some (aN dU (true,()))
 else
 bif decide (o=13)then
  some (aN dU (true,()))
 else
 bif decide (o=14)then
  some (aN dU (true,()))
 else
 bif decide (o=26)then
  some (aN dU (true,()))
 else
 bif decide (o=33)then
  some (aN dU (true,()))
 else
 bif decide (o=36)then
  some (aN dU (true,()))
 else
 bif decide (o=27)then
  some (aN dU (true,()))
 else
 bif decide (o=32)then
  some (aN dU (true,()))
 else
 bif decide (o=35)then
  some (aN dU (true,()))
 else
 bif decide (o=63)then
  some (aN dU (true,()))
 else
 bif decide (o=66)then
  some (aN dU (true,()))
 else
 bif decide (o=34)then
  some (aN dU (true,()))
 else
 bif decide (o=64)then
  some (aN dU (true,()))
 else
 bif decide (o=40)then
  some (aN dU (true,()))
 else
 bif decide (o=41)then
  some (aN dU (true,()))
 else
 bif bif decide (44<=o)then decide (o<=53)else false then
  some (aN dU (true,()))
 else
 bif decide (o=54)then
  some (aN dU (true,()))
 else
 bif decide (o=55)then
  some (aN dU (true,()))
 else
 bif bif decide (58<=o)then decide (o<=62)else false then
  some (aN dU (true,()))
 else
 bI (yN (o,())) (
 bif decide (0<(m11 (o,())).1)then
  bI (yN (o,())) (
  some (aN dU (true,())))
 else
 some (aN dU (bif decide (o=15)then true else bif decide (o=16)then true else bif decide (o=17)then true else decide (o=256),()))):=by kernel_rfl
theorem A0(ss:List (den cx))(fs:List (den fw))(p0 p1 p2 p3 p4:Int)(cs:List (den cQ))(ms:List Int)(t o a n:Int):(t141 (ss,fs,p0,p1,p2,p3,p4,cs,ms,t,o,a,n,())).val=
 bif decide (o=12)then
  some (aN gP (bif decide (0<=a)then decide (a<(cs.length:Int))else false,()))
 else
 bif decide (o=13)then
  some (aN gP (bif decide (0<=a)then decide (a<(cs.length:Int))else false,()))
 else
 bif decide (o=14)then
  some (aN gP (bif decide (0<=a)then decide (a<bm .i64 (bm .i64 ((cs.length:Int)) t) (1))else false,()))
 else
 bif decide (o=16)then
  some (aN gP (bif decide (0<=a)then decide (a<(fs.length:Int))else false,()))
 else
 bif decide (o=17)then
  some (aN gP (bif decide (0<=a)then decide (a<(ss.length:Int))else false,()))
 else
 bif decide (o=32)then
  some (aN gP (bif decide (0<=a)then decide (a<bf .i64 p2 p4)else false,()))
 else
 bif decide (o=33)then
  some (aN gP (bif decide (0<=a)then decide (a<bf .i64 p2 p4)else false,()))
 else
 bif decide (o=34)then
  some (aN gP (bif decide (0<=a)then decide (a<bf .i64 p2 p4)else false,()))
 else
 bif decide (o=35)then
  some (aN gP (decide (0<=a),()))
 else
 bif decide (o=36)then
  some (aN gP (decide (0<=a),()))
 else
 bif decide (o=256)then
  some (aN gP (bif decide (0<=a)then bif decide (a<=1048576)then decide (n<=1048576)else false else false,()))
 else
 bI (FN (o,())) (
 some (aN gP ((FO (o,())).1,()))):=by kernel_rfl
theorem L7(p0 p1 p2 p3 p4:Int)(cs:List (den cQ))(ms:List Int)(ss:List (den cx))(fs:List (den fw))(ds:List (den cQ))(n i:Int):(nD (aN iU (p0,p1,p2,p3,p4,cs,ms,ss,fs,ds,n,i,()))).val=
 bif decide (i<n)then
  bI (cu i ((ds.length:Int))) (
  bI (wS (ss,fs,p0,p1,p2,p3,p4,cs,ms,i,(ds.getD i.toNat (aS ((Ty.int .i64).pair ((Ty.int .i64).pair (Ty.int .u64))))).1,(ds.getD i.toNat (aS ((Ty.int .i64).pair ((Ty.int .i64).pair (Ty.int .u64))))).2.1,(ds.getD i.toNat (aS ((Ty.int .i64).pair ((Ty.int .i64).pair (Ty.int .u64))))).2.2,())) (
  bif !(uG (ss,fs,p0,p1,p2,p3,p4,cs,ms,i,(ds.getD i.toNat (aS ((Ty.int .i64).pair ((Ty.int .i64).pair (Ty.int .u64))))).1,(ds.getD i.toNat (aS ((Ty.int .i64).pair ((Ty.int .i64).pair (Ty.int .u64))))).2.1,(ds.getD i.toNat (aS ((Ty.int .i64).pair ((Ty.int .i64).pair (Ty.int .u64))))).2.2,())).1 then
   some (.out 1 (aN gb (false,())))
  else
  some (.next (aN iU (p0,p1,p2,p3,p4,cs,ms,ss,fs,ds,n,bf .i64 i (1),())))))
 else
 some (.out 0 (aN iV (()))):=by kernel_rfl
theorem abm(ss:List (den cx))(fs:List (den fw))(p0 p1 p2 p3 p4:Int)(cs:List (den cQ))(ms:List Int):(t84 (ss,fs,p0,p1,p2,p3,p4,cs,ms,())).val=
 bif bif decide (p0<(-1))then true else bif decide (p1<0)then true else bif decide ((ss.length:Int)<=p1)then true else bif decide (p4<0)then true else bif decide (4096<p4)then true else decide (p0=(-1)) ^^ decide (0<(cs.length:Int))then
  some (aN px (false,()))
 else
 bI (cu p1 ((ss.length:Int))) (
 bif bif !decide (p2=Int.ofNat (List.length (ss.getD p1.toNat (aS ((Ty.int .i64).aC.pair (Ty.int .i64).aC))).1))then true else !decide (p3=Int.ofNat (List.length (ss.getD p1.toNat (aS ((Ty.int .i64).aC.pair (Ty.int .i64).aC))).2))then
  some (aN px (false,()))
 else
 bI (sV nD [Ty.int .i64,Ty.int .i64,Ty.int .i64,Ty.int .i64,Ty.int .i64,((Ty.int .i64).pair ((Ty.int .i64).pair (Ty.int .u64))).aC,(Ty.int .i64).aC,((Ty.int .i64).aC.pair (Ty.int .i64).aC).aC,((Ty.int .i64).pair ((Ty.int .i64).pair ((Ty.int .i64).pair ((Ty.int .i64).pair ((Ty.int .i64).pair (((Ty.int .i64).pair ((Ty.int .i64).pair (Ty.int .u64))).aC.pair (Ty.int .i64).aC)))))).aC,((Ty.int .i64).pair ((Ty.int .i64).pair (Ty.int .u64))).aC,Ty.int .i64,Ty.int .i64] [] [Ty.bool] (p0,p1,p2,p3,p4,cs,ms,ss,fs,cs,(cs.length:Int),0,())) (
 bif rH nD [Ty.int .i64,Ty.int .i64,Ty.int .i64,Ty.int .i64,Ty.int .i64,((Ty.int .i64).pair ((Ty.int .i64).pair (Ty.int .u64))).aC,(Ty.int .i64).aC,((Ty.int .i64).aC.pair (Ty.int .i64).aC).aC,((Ty.int .i64).pair ((Ty.int .i64).pair ((Ty.int .i64).pair ((Ty.int .i64).pair ((Ty.int .i64).pair (((Ty.int .i64).pair ((Ty.int .i64).pair (Ty.int .u64))).aC.pair (Ty.int .i64).aC)))))).aC,((Ty.int .i64).pair ((Ty.int .i64).pair (Ty.int .u64))).aC,Ty.int .i64,Ty.int .i64] (p0,p1,p2,p3,p4,cs,ms,ss,fs,cs,(cs.length:Int),0,())then
  some (aN px (true,()))
 else
 some (aN px ((hJ nD [Ty.int .i64,Ty.int .i64,Ty.int .i64,Ty.int .i64,Ty.int .i64,((Ty.int .i64).pair ((Ty.int .i64).pair (Ty.int .u64))).aC,(Ty.int .i64).aC,((Ty.int .i64).aC.pair (Ty.int .i64).aC).aC,((Ty.int .i64).pair ((Ty.int .i64).pair ((Ty.int .i64).pair ((Ty.int .i64).pair ((Ty.int .i64).pair (((Ty.int .i64).pair ((Ty.int .i64).pair (Ty.int .u64))).aC.pair (Ty.int .i64).aC)))))).aC,((Ty.int .i64).pair ((Ty.int .i64).pair (Ty.int .u64))).aC,Ty.int .i64,Ty.int .i64] [Ty.bool] (p0,p1,p2,p3,p4,cs,ms,ss,fs,cs,(cs.length:Int),0,())).1,())))):=by kernel_rfl
theorem L8(ss:List (den cx))(fs:List (den fw))(l:List (den cx))(n i:Int):(f340 (aN eW (ss,fs,l,n,i,()))).val=
 bif decide (i<n)then
  bI (cu i ((l.length:Int))) (
  bI (QK ((l.getD i.toNat (aS ((Ty.int .i64).aC.pair (Ty.int .i64).aC))).1,())) (
  bif !(QL ((l.getD i.toNat (aS ((Ty.int .i64).aC.pair (Ty.int .i64).aC))).1,())).1 then
   some (.out 1 (aN gf (1,())))
  else
  bI (QK ((l.getD i.toNat (aS ((Ty.int .i64).aC.pair (Ty.int .i64).aC))).2,())) (
  bif !(QL ((l.getD i.toNat (aS ((Ty.int .i64).aC.pair (Ty.int .i64).aC))).2,())).1 then
   some (.out 1 (aN gf (1,())))
  else
  some (.next (aN eW (ss,fs,l,n,bf .i64 i (1),()))))))
 else
 some (.out 0 (aN dQ (ss,fs,()))):=by kernel_rfl
theorem L9(ss:List (den cx))(fs:List (den fw))(n i:Int):(f342 (aN gq (ss,fs,n,i,()))).val=
 bif decide (i<n)then
  bI (cu i ((fs.length:Int))) (
  bI (Yq (ss,fs,(fs.getD i.toNat (aS ((Ty.int .i64).pair ((Ty.int .i64).pair ((Ty.int .i64).pair ((Ty.int .i64).pair ((Ty.int .i64).pair (((Ty.int .i64).pair ((Ty.int .i64).pair (Ty.int .u64))).aC.pair (Ty.int .i64).aC)))))))).1,(fs.getD i.toNat (aS ((Ty.int .i64).pair ((Ty.int .i64).pair ((Ty.int .i64).pair ((Ty.int .i64).pair ((Ty.int .i64).pair (((Ty.int .i64).pair ((Ty.int .i64).pair (Ty.int .u64))).aC.pair (Ty.int .i64).aC)))))))).2.1,(fs.getD i.toNat (aS ((Ty.int .i64).pair ((Ty.int .i64).pair ((Ty.int .i64).pair ((Ty.int .i64).pair ((Ty.int .i64).pair (((Ty.int .i64).pair ((Ty.int .i64).pair (Ty.int .u64))).aC.pair (Ty.int .i64).aC)))))))).2.2.1,(fs.getD i.toNat (aS ((Ty.int .i64).pair ((Ty.int .i64).pair ((Ty.int .i64).pair ((Ty.int .i64).pair ((Ty.int .i64).pair (((Ty.int .i64).pair ((Ty.int .i64).pair (Ty.int .u64))).aC.pair (Ty.int .i64).aC)))))))).2.2.2.1,(fs.getD i.toNat (aS ((Ty.int .i64).pair ((Ty.int .i64).pair ((Ty.int .i64).pair ((Ty.int .i64).pair ((Ty.int .i64).pair (((Ty.int .i64).pair ((Ty.int .i64).pair (Ty.int .u64))).aC.pair (Ty.int .i64).aC)))))))).2.2.2.2.1,(fs.getD i.toNat (aS ((Ty.int .i64).pair ((Ty.int .i64).pair ((Ty.int .i64).pair ((Ty.int .i64).pair ((Ty.int .i64).pair (((Ty.int .i64).pair ((Ty.int .i64).pair (Ty.int .u64))).aC.pair (Ty.int .i64).aC)))))))).2.2.2.2.2.1,(fs.getD i.toNat (aS ((Ty.int .i64).pair ((Ty.int .i64).pair ((Ty.int .i64).pair ((Ty.int .i64).pair ((Ty.int .i64).pair (((Ty.int .i64).pair ((Ty.int .i64).pair (Ty.int .u64))).aC.pair (Ty.int .i64).aC)))))))).2.2.2.2.2.2,())) (
  bif !(Yr (ss,fs,(fs.getD i.toNat (aS ((Ty.int .i64).pair ((Ty.int .i64).pair ((Ty.int .i64).pair ((Ty.int .i64).pair ((Ty.int .i64).pair (((Ty.int .i64).pair ((Ty.int .i64).pair (Ty.int .u64))).aC.pair (Ty.int .i64).aC)))))))).1,(fs.getD i.toNat (aS ((Ty.int .i64).pair ((Ty.int .i64).pair ((Ty.int .i64).pair ((Ty.int .i64).pair ((Ty.int .i64).pair (((Ty.int .i64).pair ((Ty.int .i64).pair (Ty.int .u64))).aC.pair (Ty.int .i64).aC)))))))).2.1,(fs.getD i.toNat (aS ((Ty.int .i64).pair ((Ty.int .i64).pair ((Ty.int .i64).pair ((Ty.int .i64).pair ((Ty.int .i64).pair (((Ty.int .i64).pair ((Ty.int .i64).pair (Ty.int .u64))).aC.pair (Ty.int .i64).aC)))))))).2.2.1,(fs.getD i.toNat (aS ((Ty.int .i64).pair ((Ty.int .i64).pair ((Ty.int .i64).pair ((Ty.int .i64).pair ((Ty.int .i64).pair (((Ty.int .i64).pair ((Ty.int .i64).pair (Ty.int .u64))).aC.pair (Ty.int .i64).aC)))))))).2.2.2.1,(fs.getD i.toNat (aS ((Ty.int .i64).pair ((Ty.int .i64).pair ((Ty.int .i64).pair ((Ty.int .i64).pair ((Ty.int .i64).pair (((Ty.int .i64).pair ((Ty.int .i64).pair (Ty.int .u64))).aC.pair (Ty.int .i64).aC)))))))).2.2.2.2.1,(fs.getD i.toNat (aS ((Ty.int .i64).pair ((Ty.int .i64).pair ((Ty.int .i64).pair ((Ty.int .i64).pair ((Ty.int .i64).pair (((Ty.int .i64).pair ((Ty.int .i64).pair (Ty.int .u64))).aC.pair (Ty.int .i64).aC)))))))).2.2.2.2.2.1,(fs.getD i.toNat (aS ((Ty.int .i64).pair ((Ty.int .i64).pair ((Ty.int .i64).pair ((Ty.int .i64).pair ((Ty.int .i64).pair (((Ty.int .i64).pair ((Ty.int .i64).pair (Ty.int .u64))).aC.pair (Ty.int .i64).aC)))))))).2.2.2.2.2.2,())).1 then
   some (.out 1 (aN fe (1,())))
  else
  some (.next (aN gq (ss,fs,n,bf .i64 i (1),())))))
 else
 some (.out 0 (aN hZ (()))):=by kernel_rfl
theorem abn(ss:List (den cx))(fs:List (den fw)):(t34 (ss,fs,())).val=
 bI (sV f340 [((Ty.int .i64).aC.pair (Ty.int .i64).aC).aC,((Ty.int .i64).pair ((Ty.int .i64).pair ((Ty.int .i64).pair ((Ty.int .i64).pair ((Ty.int .i64).pair (((Ty.int .i64).pair ((Ty.int .i64).pair (Ty.int .u64))).aC.pair (Ty.int .i64).aC)))))).aC,((Ty.int .i64).aC.pair (Ty.int .i64).aC).aC,Ty.int .i64,Ty.int .i64] [((Ty.int .i64).aC.pair (Ty.int .i64).aC).aC,((Ty.int .i64).pair ((Ty.int .i64).pair ((Ty.int .i64).pair ((Ty.int .i64).pair ((Ty.int .i64).pair (((Ty.int .i64).pair ((Ty.int .i64).pair (Ty.int .u64))).aC.pair (Ty.int .i64).aC)))))).aC] [Ty.int .i64] (ss,fs,ss,(ss.length:Int),0,())) (
 bif rH f340 [((Ty.int .i64).aC.pair (Ty.int .i64).aC).aC,((Ty.int .i64).pair ((Ty.int .i64).pair ((Ty.int .i64).pair ((Ty.int .i64).pair ((Ty.int .i64).pair (((Ty.int .i64).pair ((Ty.int .i64).pair (Ty.int .u64))).aC.pair (Ty.int .i64).aC)))))).aC,((Ty.int .i64).aC.pair (Ty.int .i64).aC).aC,Ty.int .i64,Ty.int .i64] (ss,fs,ss,(ss.length:Int),0,())then
  bI (sV f342 [((Ty.int .i64).aC.pair (Ty.int .i64).aC).aC,((Ty.int .i64).pair ((Ty.int .i64).pair ((Ty.int .i64).pair ((Ty.int .i64).pair ((Ty.int .i64).pair (((Ty.int .i64).pair ((Ty.int .i64).pair (Ty.int .u64))).aC.pair (Ty.int .i64).aC)))))).aC,Ty.int .i64,Ty.int .i64] [] [Ty.int .i64] ((hJ f340 [((Ty.int .i64).aC.pair (Ty.int .i64).aC).aC,((Ty.int .i64).pair ((Ty.int .i64).pair ((Ty.int .i64).pair ((Ty.int .i64).pair ((Ty.int .i64).pair (((Ty.int .i64).pair ((Ty.int .i64).pair (Ty.int .u64))).aC.pair (Ty.int .i64).aC)))))).aC,((Ty.int .i64).aC.pair (Ty.int .i64).aC).aC,Ty.int .i64,Ty.int .i64] [((Ty.int .i64).aC.pair (Ty.int .i64).aC).aC,((Ty.int .i64).pair ((Ty.int .i64).pair ((Ty.int .i64).pair ((Ty.int .i64).pair ((Ty.int .i64).pair (((Ty.int .i64).pair ((Ty.int .i64).pair (Ty.int .u64))).aC.pair (Ty.int .i64).aC)))))).aC] (ss,fs,ss,(ss.length:Int),0,())).1,(hJ f340 [((Ty.int .i64).aC.pair (Ty.int .i64).aC).aC,((Ty.int .i64).pair ((Ty.int .i64).pair ((Ty.int .i64).pair ((Ty.int .i64).pair ((Ty.int .i64).pair (((Ty.int .i64).pair ((Ty.int .i64).pair (Ty.int .u64))).aC.pair (Ty.int .i64).aC)))))).aC,((Ty.int .i64).aC.pair (Ty.int .i64).aC).aC,Ty.int .i64,Ty.int .i64] [((Ty.int .i64).aC.pair (Ty.int .i64).aC).aC,((Ty.int .i64).pair ((Ty.int .i64).pair ((Ty.int .i64).pair ((Ty.int .i64).pair ((Ty.int .i64).pair (((Ty.int .i64).pair ((Ty.int .i64).pair (Ty.int .u64))).aC.pair (Ty.int .i64).aC)))))).aC] (ss,fs,ss,(ss.length:Int),0,())).2.1,Int.ofNat (List.length (hJ f340 [((Ty.int .i64).aC.pair (Ty.int .i64).aC).aC,((Ty.int .i64).pair ((Ty.int .i64).pair ((Ty.int .i64).pair ((Ty.int .i64).pair ((Ty.int .i64).pair (((Ty.int .i64).pair ((Ty.int .i64).pair (Ty.int .u64))).aC.pair (Ty.int .i64).aC)))))).aC,((Ty.int .i64).aC.pair (Ty.int .i64).aC).aC,Ty.int .i64,Ty.int .i64] [((Ty.int .i64).aC.pair (Ty.int .i64).aC).aC,((Ty.int .i64).pair ((Ty.int .i64).pair ((Ty.int .i64).pair ((Ty.int .i64).pair ((Ty.int .i64).pair (((Ty.int .i64).pair ((Ty.int .i64).pair (Ty.int .u64))).aC.pair (Ty.int .i64).aC)))))).aC] (ss,fs,ss,(ss.length:Int),0,())).2.1),0,())) (
  bif rH f342 [((Ty.int .i64).aC.pair (Ty.int .i64).aC).aC,((Ty.int .i64).pair ((Ty.int .i64).pair ((Ty.int .i64).pair ((Ty.int .i64).pair ((Ty.int .i64).pair (((Ty.int .i64).pair ((Ty.int .i64).pair (Ty.int .u64))).aC.pair (Ty.int .i64).aC)))))).aC,Ty.int .i64,Ty.int .i64] ((hJ f340 [((Ty.int .i64).aC.pair (Ty.int .i64).aC).aC,((Ty.int .i64).pair ((Ty.int .i64).pair ((Ty.int .i64).pair ((Ty.int .i64).pair ((Ty.int .i64).pair (((Ty.int .i64).pair ((Ty.int .i64).pair (Ty.int .u64))).aC.pair (Ty.int .i64).aC)))))).aC,((Ty.int .i64).aC.pair (Ty.int .i64).aC).aC,Ty.int .i64,Ty.int .i64] [((Ty.int .i64).aC.pair (Ty.int .i64).aC).aC,((Ty.int .i64).pair ((Ty.int .i64).pair ((Ty.int .i64).pair ((Ty.int .i64).pair ((Ty.int .i64).pair (((Ty.int .i64).pair ((Ty.int .i64).pair (Ty.int .u64))).aC.pair (Ty.int .i64).aC)))))).aC] (ss,fs,ss,(ss.length:Int),0,())).1,(hJ f340 [((Ty.int .i64).aC.pair (Ty.int .i64).aC).aC,((Ty.int .i64).pair ((Ty.int .i64).pair ((Ty.int .i64).pair ((Ty.int .i64).pair ((Ty.int .i64).pair (((Ty.int .i64).pair ((Ty.int .i64).pair (Ty.int .u64))).aC.pair (Ty.int .i64).aC)))))).aC,((Ty.int .i64).aC.pair (Ty.int .i64).aC).aC,Ty.int .i64,Ty.int .i64] [((Ty.int .i64).aC.pair (Ty.int .i64).aC).aC,((Ty.int .i64).pair ((Ty.int .i64).pair ((Ty.int .i64).pair ((Ty.int .i64).pair ((Ty.int .i64).pair (((Ty.int .i64).pair ((Ty.int .i64).pair (Ty.int .u64))).aC.pair (Ty.int .i64).aC)))))).aC] (ss,fs,ss,(ss.length:Int),0,())).2.1,Int.ofNat (List.length (hJ f340 [((Ty.int .i64).aC.pair (Ty.int .i64).aC).aC,((Ty.int .i64).pair ((Ty.int .i64).pair ((Ty.int .i64).pair ((Ty.int .i64).pair ((Ty.int .i64).pair (((Ty.int .i64).pair ((Ty.int .i64).pair (Ty.int .u64))).aC.pair (Ty.int .i64).aC)))))).aC,((Ty.int .i64).aC.pair (Ty.int .i64).aC).aC,Ty.int .i64,Ty.int .i64] [((Ty.int .i64).aC.pair (Ty.int .i64).aC).aC,((Ty.int .i64).pair ((Ty.int .i64).pair ((Ty.int .i64).pair ((Ty.int .i64).pair ((Ty.int .i64).pair (((Ty.int .i64).pair ((Ty.int .i64).pair (Ty.int .u64))).aC.pair (Ty.int .i64).aC)))))).aC] (ss,fs,ss,(ss.length:Int),0,())).2.1),0,())then
   some (aN rm (0,()))
  else
  some (aN rm ((hJ f342 [((Ty.int .i64).aC.pair (Ty.int .i64).aC).aC,((Ty.int .i64).pair ((Ty.int .i64).pair ((Ty.int .i64).pair ((Ty.int .i64).pair ((Ty.int .i64).pair (((Ty.int .i64).pair ((Ty.int .i64).pair (Ty.int .u64))).aC.pair (Ty.int .i64).aC)))))).aC,Ty.int .i64,Ty.int .i64] [Ty.int .i64] ((hJ f340 [((Ty.int .i64).aC.pair (Ty.int .i64).aC).aC,((Ty.int .i64).pair ((Ty.int .i64).pair ((Ty.int .i64).pair ((Ty.int .i64).pair ((Ty.int .i64).pair (((Ty.int .i64).pair ((Ty.int .i64).pair (Ty.int .u64))).aC.pair (Ty.int .i64).aC)))))).aC,((Ty.int .i64).aC.pair (Ty.int .i64).aC).aC,Ty.int .i64,Ty.int .i64] [((Ty.int .i64).aC.pair (Ty.int .i64).aC).aC,((Ty.int .i64).pair ((Ty.int .i64).pair ((Ty.int .i64).pair ((Ty.int .i64).pair ((Ty.int .i64).pair (((Ty.int .i64).pair ((Ty.int .i64).pair (Ty.int .u64))).aC.pair (Ty.int .i64).aC)))))).aC] (ss,fs,ss,(ss.length:Int),0,())).1,(hJ f340 [((Ty.int .i64).aC.pair (Ty.int .i64).aC).aC,((Ty.int .i64).pair ((Ty.int .i64).pair ((Ty.int .i64).pair ((Ty.int .i64).pair ((Ty.int .i64).pair (((Ty.int .i64).pair ((Ty.int .i64).pair (Ty.int .u64))).aC.pair (Ty.int .i64).aC)))))).aC,((Ty.int .i64).aC.pair (Ty.int .i64).aC).aC,Ty.int .i64,Ty.int .i64] [((Ty.int .i64).aC.pair (Ty.int .i64).aC).aC,((Ty.int .i64).pair ((Ty.int .i64).pair ((Ty.int .i64).pair ((Ty.int .i64).pair ((Ty.int .i64).pair (((Ty.int .i64).pair ((Ty.int .i64).pair (Ty.int .u64))).aC.pair (Ty.int .i64).aC)))))).aC] (ss,fs,ss,(ss.length:Int),0,())).2.1,Int.ofNat (List.length (hJ f340 [((Ty.int .i64).aC.pair (Ty.int .i64).aC).aC,((Ty.int .i64).pair ((Ty.int .i64).pair ((Ty.int .i64).pair ((Ty.int .i64).pair ((Ty.int .i64).pair (((Ty.int .i64).pair ((Ty.int .i64).pair (Ty.int .u64))).aC.pair (Ty.int .i64).aC)))))).aC,((Ty.int .i64).aC.pair (Ty.int .i64).aC).aC,Ty.int .i64,Ty.int .i64] [((Ty.int .i64).aC.pair (Ty.int .i64).aC).aC,((Ty.int .i64).pair ((Ty.int .i64).pair ((Ty.int .i64).pair ((Ty.int .i64).pair ((Ty.int .i64).pair (((Ty.int .i64).pair ((Ty.int .i64).pair (Ty.int .u64))).aC.pair (Ty.int .i64).aC)))))).aC] (ss,fs,ss,(ss.length:Int),0,())).2.1),0,())).1,())))
 else
 some (aN rm ((hJ f340 [((Ty.int .i64).aC.pair (Ty.int .i64).aC).aC,((Ty.int .i64).pair ((Ty.int .i64).pair ((Ty.int .i64).pair ((Ty.int .i64).pair ((Ty.int .i64).pair (((Ty.int .i64).pair ((Ty.int .i64).pair (Ty.int .u64))).aC.pair (Ty.int .i64).aC)))))).aC,((Ty.int .i64).aC.pair (Ty.int .i64).aC).aC,Ty.int .i64,Ty.int .i64] [Ty.int .i64] (ss,fs,ss,(ss.length:Int),0,())).1,()))):=by kernel_rfl
theorem Gx(a b:List Int)(i:Int):(nF (aN kW (a,b,i,()))).val=
 bif decide (i<(a.length:Int))then
  bI (cu i ((a.length:Int))&&cu i ((b.length:Int))) (
  bif !decide (a.getD i.toNat (aS (Ty.int .u64))=b.getD i.toNat (aS (Ty.int .u64)))then
   some (.out 1 (aN kX (false,())))
  else
  some (.next (aN kW (a,b,bf .i64 i (1),()))))
 else
 some (.out 0 (aN jC (()))):=by kernel_rfl
theorem abo(a b:List Int):(t25 (a,b,())).val=
 bif !decide ((a.length:Int)=(b.length:Int))then
  some (aN yX (false,()))
 else
 bI (sV nF [(Ty.int .u64).aC,(Ty.int .u64).aC,Ty.int .i64] [] [Ty.bool] (a,b,0,())) (
 bif rH nF [(Ty.int .u64).aC,(Ty.int .u64).aC,Ty.int .i64] (a,b,0,())then
  some (aN yX (true,()))
 else
 some (aN yX ((hJ nF [(Ty.int .u64).aC,(Ty.int .u64).aC,Ty.int .i64] [Ty.bool] (a,b,0,())).1,()))):=by kernel_rfl
theorem abp(a b d a2 b2 d2:Int)(c c2:List Int):(t16 (a,b,c,d,a2,b2,c2,d2,())).val=
 bif decide (a=a2)then
  bif decide (b=b2)then
   bif decide (d=d2)then
    bI (Xf (c,c2,())) (
    some (aN xh ((m25 (c,c2,())).1,())))
   else
   some (aN xh (false,()))
  else
  some (aN xh (false,()))
 else
 some (aN xh (false,())):=by kernel_rfl
theorem L'(x:Int)(os ys:List Int)(cs:List (den cQ))(w e:Int)(lg:Bool)(i:Int):(xk (aN cU (x,os,ys,cs,w,e,lg,i,()))).val=
 bif bif decide (i<(os.length:Int))then decide (i<1000)else false then
  bI (cu i ((os.length:Int))) (
  bif decide (i<(ys.length:Int))then
   bI (cu i ((ys.length:Int))) (
   bI (yN (bf .i64 (69) (an .i64 (bF .u64 (an .u64 (os.getD i.toNat (aS (Ty.int .i64)))) (130))),())) (
   bif decide ((m11 (bf .i64 (69) (an .i64 (bF .u64 (an .u64 (os.getD i.toNat (aS (Ty.int .i64)))) (130))),())).1=2)then
    bI (roomy 24 (cs.length+[(66,0,ys.getD i.toNat (aS (Ty.int .u64)))].length)) (
    bI (roomy 24 ((app cs [(66,0,ys.getD i.toNat (aS (Ty.int .u64)))]).length+[(bf .i64 (69) (an .i64 (bF .u64 (an .u64 (os.getD i.toNat (aS (Ty.int .i64)))) (130))),i,0)].length)) (
    bif decide ((m11 (bf .i64 (69) (an .i64 (bF .u64 (an .u64 (os.getD i.toNat (aS (Ty.int .i64)))) (130))),())).1=0)then
     bif bif !decide (e=0)then true else decide ((m11 (bf .i64 (69) (an .i64 (bF .u64 (an .u64 (os.getD i.toNat (aS (Ty.int .i64)))) (130))),())).1=0)then
      some (.next (aN cU (x,os,ys,app (app cs [(66,0,ys.getD i.toNat (aS (Ty.int .u64)))]) [(bf .i64 (69) (an .i64 (bF .u64 (an .u64 (os.getD i.toNat (aS (Ty.int .i64)))) (130))),i,0)],w,e,false,bf .i64 i (1),())))
     else
     bif decide ((m11 (bf .i64 (69) (an .i64 (bF .u64 (an .u64 (os.getD i.toNat (aS (Ty.int .i64)))) (130))),())).1=2)then
      bI (wU (bf .i64 (69) (an .i64 (bF .u64 (an .u64 (os.getD i.toNat (aS (Ty.int .i64)))) (130))),w,ys.getD i.toNat (aS (Ty.int .u64)),())) (
      some (.next (aN cU (x,os,ys,app (app cs [(66,0,ys.getD i.toNat (aS (Ty.int .u64)))]) [(bf .i64 (69) (an .i64 (bF .u64 (an .u64 (os.getD i.toNat (aS (Ty.int .i64)))) (130))),i,0)],(m12 (bf .i64 (69) (an .i64 (bF .u64 (an .u64 (os.getD i.toNat (aS (Ty.int .i64)))) (130))),w,ys.getD i.toNat (aS (Ty.int .u64)),())).1,(m12 (bf .i64 (69) (an .i64 (bF .u64 (an .u64 (os.getD i.toNat (aS (Ty.int .i64)))) (130))),w,ys.getD i.toNat (aS (Ty.int .u64)),())).2.1,false,bf .i64 i (1),()))))
     else
     bI (wV (bf .i64 (69) (an .i64 (bF .u64 (an .u64 (os.getD i.toNat (aS (Ty.int .i64)))) (130))),w,())) (
     some (.next (aN cU (x,os,ys,app (app cs [(66,0,ys.getD i.toNat (aS (Ty.int .u64)))]) [(bf .i64 (69) (an .i64 (bF .u64 (an .u64 (os.getD i.toNat (aS (Ty.int .i64)))) (130))),i,0)],(m13 (bf .i64 (69) (an .i64 (bF .u64 (an .u64 (os.getD i.toNat (aS (Ty.int .i64)))) (130))),w,())).1,(m13 (bf .i64 (69) (an .i64 (bF .u64 (an .u64 (os.getD i.toNat (aS (Ty.int .i64)))) (130))),w,())).2.1,false,bf .i64 i (1),()))))
    else
    bif bif !decide (e=0)then true else decide ((m11 (bf .i64 (69) (an .i64 (bF .u64 (an .u64 (os.getD i.toNat (aS (Ty.int .i64)))) (130))),())).1=0)then
     some (.next (aN cU (x,os,ys,app (app cs [(66,0,ys.getD i.toNat (aS (Ty.int .u64)))]) [(bf .i64 (69) (an .i64 (bF .u64 (an .u64 (os.getD i.toNat (aS (Ty.int .i64)))) (130))),i,0)],w,e,lg,bf .i64 i (1),())))
    else
    bif decide ((m11 (bf .i64 (69) (an .i64 (bF .u64 (an .u64 (os.getD i.toNat (aS (Ty.int .i64)))) (130))),())).1=2)then
     bI (wU (bf .i64 (69) (an .i64 (bF .u64 (an .u64 (os.getD i.toNat (aS (Ty.int .i64)))) (130))),w,ys.getD i.toNat (aS (Ty.int .u64)),())) (
     some (.next (aN cU (x,os,ys,app (app cs [(66,0,ys.getD i.toNat (aS (Ty.int .u64)))]) [(bf .i64 (69) (an .i64 (bF .u64 (an .u64 (os.getD i.toNat (aS (Ty.int .i64)))) (130))),i,0)],(m12 (bf .i64 (69) (an .i64 (bF .u64 (an .u64 (os.getD i.toNat (aS (Ty.int .i64)))) (130))),w,ys.getD i.toNat (aS (Ty.int .u64)),())).1,(m12 (bf .i64 (69) (an .i64 (bF .u64 (an .u64 (os.getD i.toNat (aS (Ty.int .i64)))) (130))),w,ys.getD i.toNat (aS (Ty.int .u64)),())).2.1,lg,bf .i64 i (1),()))))
    else
    bI (wV (bf .i64 (69) (an .i64 (bF .u64 (an .u64 (os.getD i.toNat (aS (Ty.int .i64)))) (130))),w,())) (
    some (.next (aN cU (x,os,ys,app (app cs [(66,0,ys.getD i.toNat (aS (Ty.int .u64)))]) [(bf .i64 (69) (an .i64 (bF .u64 (an .u64 (os.getD i.toNat (aS (Ty.int .i64)))) (130))),i,0)],(m13 (bf .i64 (69) (an .i64 (bF .u64 (an .u64 (os.getD i.toNat (aS (Ty.int .i64)))) (130))),w,())).1,(m13 (bf .i64 (69) (an .i64 (bF .u64 (an .u64 (os.getD i.toNat (aS (Ty.int .i64)))) (130))),w,())).2.1,lg,bf .i64 i (1),()))))))
   else
   bI (roomy 24 (cs.length+[(bf .i64 (69) (an .i64 (bF .u64 (an .u64 (os.getD i.toNat (aS (Ty.int .i64)))) (130))),i,0)].length)) (
   bif decide ((m11 (bf .i64 (69) (an .i64 (bF .u64 (an .u64 (os.getD i.toNat (aS (Ty.int .i64)))) (130))),())).1=0)then
    bif bif !decide (e=0)then true else decide ((m11 (bf .i64 (69) (an .i64 (bF .u64 (an .u64 (os.getD i.toNat (aS (Ty.int .i64)))) (130))),())).1=0)then
     some (.next (aN cU (x,os,ys,app cs [(bf .i64 (69) (an .i64 (bF .u64 (an .u64 (os.getD i.toNat (aS (Ty.int .i64)))) (130))),i,0)],w,e,false,bf .i64 i (1),())))
    else
    bif decide ((m11 (bf .i64 (69) (an .i64 (bF .u64 (an .u64 (os.getD i.toNat (aS (Ty.int .i64)))) (130))),())).1=2)then
     bI (wU (bf .i64 (69) (an .i64 (bF .u64 (an .u64 (os.getD i.toNat (aS (Ty.int .i64)))) (130))),w,ys.getD i.toNat (aS (Ty.int .u64)),())) (
     some (.next (aN cU (x,os,ys,app cs [(bf .i64 (69) (an .i64 (bF .u64 (an .u64 (os.getD i.toNat (aS (Ty.int .i64)))) (130))),i,0)],(m12 (bf .i64 (69) (an .i64 (bF .u64 (an .u64 (os.getD i.toNat (aS (Ty.int .i64)))) (130))),w,ys.getD i.toNat (aS (Ty.int .u64)),())).1,(m12 (bf .i64 (69) (an .i64 (bF .u64 (an .u64 (os.getD i.toNat (aS (Ty.int .i64)))) (130))),w,ys.getD i.toNat (aS (Ty.int .u64)),())).2.1,false,bf .i64 i (1),()))))
    else
    bI (wV (bf .i64 (69) (an .i64 (bF .u64 (an .u64 (os.getD i.toNat (aS (Ty.int .i64)))) (130))),w,())) (
    some (.next (aN cU (x,os,ys,app cs [(bf .i64 (69) (an .i64 (bF .u64 (an .u64 (os.getD i.toNat (aS (Ty.int .i64)))) (130))),i,0)],(m13 (bf .i64 (69) (an .i64 (bF .u64 (an .u64 (os.getD i.toNat (aS (Ty.int .i64)))) (130))),w,())).1,(m13 (bf .i64 (69) (an .i64 (bF .u64 (an .u64 (os.getD i.toNat (aS (Ty.int .i64)))) (130))),w,())).2.1,false,bf .i64 i (1),()))))
   else
   bif bif !decide (e=0)then true else decide ((m11 (bf .i64 (69) (an .i64 (bF .u64 (an .u64 (os.getD i.toNat (aS (Ty.int .i64)))) (130))),())).1=0)then
    some (.next (aN cU (x,os,ys,app cs [(bf .i64 (69) (an .i64 (bF .u64 (an .u64 (os.getD i.toNat (aS (Ty.int .i64)))) (130))),i,0)],w,e,lg,bf .i64 i (1),())))
   else
   bif decide ((m11 (bf .i64 (69) (an .i64 (bF .u64 (an .u64 (os.getD i.toNat (aS (Ty.int .i64)))) (130))),())).1=2)then
    bI (wU (bf .i64 (69) (an .i64 (bF .u64 (an .u64 (os.getD i.toNat (aS (Ty.int .i64)))) (130))),w,ys.getD i.toNat (aS (Ty.int .u64)),())) (
    some (.next (aN cU (x,os,ys,app cs [(bf .i64 (69) (an .i64 (bF .u64 (an .u64 (os.getD i.toNat (aS (Ty.int .i64)))) (130))),i,0)],(m12 (bf .i64 (69) (an .i64 (bF .u64 (an .u64 (os.getD i.toNat (aS (Ty.int .i64)))) (130))),w,ys.getD i.toNat (aS (Ty.int .u64)),())).1,(m12 (bf .i64 (69) (an .i64 (bF .u64 (an .u64 (os.getD i.toNat (aS (Ty.int .i64)))) (130))),w,ys.getD i.toNat (aS (Ty.int .u64)),())).2.1,lg,bf .i64 i (1),()))))
   else
   bI (wV (bf .i64 (69) (an .i64 (bF .u64 (an .u64 (os.getD i.toNat (aS (Ty.int .i64)))) (130))),w,())) (
   some (.next (aN cU (x,os,ys,app cs [(bf .i64 (69) (an .i64 (bF .u64 (an .u64 (os.getD i.toNat (aS (Ty.int .i64)))) (130))),i,0)],(m13 (bf .i64 (69) (an .i64 (bF .u64 (an .u64 (os.getD i.toNat (aS (Ty.int .i64)))) (130))),w,())).1,(m13 (bf .i64 (69) (an .i64 (bF .u64 (an .u64 (os.getD i.toNat (aS (Ty.int .i64)))) (130))),w,())).2.1,lg,bf .i64 i (1),())))))))
  else
  bI (yN (bf .i64 (69) (an .i64 (bF .u64 (an .u64 (os.getD i.toNat (aS (Ty.int .i64)))) (130))),())) (
  bif decide ((m11 (bf .i64 (69) (an .i64 (bF .u64 (an .u64 (os.getD i.toNat (aS (Ty.int .i64)))) (130))),())).1=2)then
   bI (roomy 24 (cs.length+[(66,0,an .u64 i)].length)) (
   bI (roomy 24 ((app cs [(66,0,an .u64 i)]).length+[(bf .i64 (69) (an .i64 (bF .u64 (an .u64 (os.getD i.toNat (aS (Ty.int .i64)))) (130))),i,0)].length)) (
   bif decide ((m11 (bf .i64 (69) (an .i64 (bF .u64 (an .u64 (os.getD i.toNat (aS (Ty.int .i64)))) (130))),())).1=0)then
    bif bif !decide (e=0)then true else decide ((m11 (bf .i64 (69) (an .i64 (bF .u64 (an .u64 (os.getD i.toNat (aS (Ty.int .i64)))) (130))),())).1=0)then
     some (.next (aN cU (x,os,ys,app (app cs [(66,0,an .u64 i)]) [(bf .i64 (69) (an .i64 (bF .u64 (an .u64 (os.getD i.toNat (aS (Ty.int .i64)))) (130))),i,0)],w,e,false,bf .i64 i (1),())))
    else
    bif decide ((m11 (bf .i64 (69) (an .i64 (bF .u64 (an .u64 (os.getD i.toNat (aS (Ty.int .i64)))) (130))),())).1=2)then
     bI (wU (bf .i64 (69) (an .i64 (bF .u64 (an .u64 (os.getD i.toNat (aS (Ty.int .i64)))) (130))),w,an .u64 i,())) (
     some (.next (aN cU (x,os,ys,app (app cs [(66,0,an .u64 i)]) [(bf .i64 (69) (an .i64 (bF .u64 (an .u64 (os.getD i.toNat (aS (Ty.int .i64)))) (130))),i,0)],(m12 (bf .i64 (69) (an .i64 (bF .u64 (an .u64 (os.getD i.toNat (aS (Ty.int .i64)))) (130))),w,an .u64 i,())).1,(m12 (bf .i64 (69) (an .i64 (bF .u64 (an .u64 (os.getD i.toNat (aS (Ty.int .i64)))) (130))),w,an .u64 i,())).2.1,false,bf .i64 i (1),()))))
    else
    bI (wV (bf .i64 (69) (an .i64 (bF .u64 (an .u64 (os.getD i.toNat (aS (Ty.int .i64)))) (130))),w,())) (
    some (.next (aN cU (x,os,ys,app (app cs [(66,0,an .u64 i)]) [(bf .i64 (69) (an .i64 (bF .u64 (an .u64 (os.getD i.toNat (aS (Ty.int .i64)))) (130))),i,0)],(m13 (bf .i64 (69) (an .i64 (bF .u64 (an .u64 (os.getD i.toNat (aS (Ty.int .i64)))) (130))),w,())).1,(m13 (bf .i64 (69) (an .i64 (bF .u64 (an .u64 (os.getD i.toNat (aS (Ty.int .i64)))) (130))),w,())).2.1,false,bf .i64 i (1),()))))
   else
   bif bif !decide (e=0)then true else decide ((m11 (bf .i64 (69) (an .i64 (bF .u64 (an .u64 (os.getD i.toNat (aS (Ty.int .i64)))) (130))),())).1=0)then
    some (.next (aN cU (x,os,ys,app (app cs [(66,0,an .u64 i)]) [(bf .i64 (69) (an .i64 (bF .u64 (an .u64 (os.getD i.toNat (aS (Ty.int .i64)))) (130))),i,0)],w,e,lg,bf .i64 i (1),())))
   else
   bif decide ((m11 (bf .i64 (69) (an .i64 (bF .u64 (an .u64 (os.getD i.toNat (aS (Ty.int .i64)))) (130))),())).1=2)then
    bI (wU (bf .i64 (69) (an .i64 (bF .u64 (an .u64 (os.getD i.toNat (aS (Ty.int .i64)))) (130))),w,an .u64 i,())) (
    some (.next (aN cU (x,os,ys,app (app cs [(66,0,an .u64 i)]) [(bf .i64 (69) (an .i64 (bF .u64 (an .u64 (os.getD i.toNat (aS (Ty.int .i64)))) (130))),i,0)],(m12 (bf .i64 (69) (an .i64 (bF .u64 (an .u64 (os.getD i.toNat (aS (Ty.int .i64)))) (130))),w,an .u64 i,())).1,(m12 (bf .i64 (69) (an .i64 (bF .u64 (an .u64 (os.getD i.toNat (aS (Ty.int .i64)))) (130))),w,an .u64 i,())).2.1,lg,bf .i64 i (1),()))))
   else
   bI (wV (bf .i64 (69) (an .i64 (bF .u64 (an .u64 (os.getD i.toNat (aS (Ty.int .i64)))) (130))),w,())) (
   some (.next (aN cU (x,os,ys,app (app cs [(66,0,an .u64 i)]) [(bf .i64 (69) (an .i64 (bF .u64 (an .u64 (os.getD i.toNat (aS (Ty.int .i64)))) (130))),i,0)],(m13 (bf .i64 (69) (an .i64 (bF .u64 (an .u64 (os.getD i.toNat (aS (Ty.int .i64)))) (130))),w,())).1,(m13 (bf .i64 (69) (an .i64 (bF .u64 (an .u64 (os.getD i.toNat (aS (Ty.int .i64)))) (130))),w,())).2.1,lg,bf .i64 i (1),()))))))
  else
  bI (roomy 24 (cs.length+[(bf .i64 (69) (an .i64 (bF .u64 (an .u64 (os.getD i.toNat (aS (Ty.int .i64)))) (130))),i,0)].length)) (
  bif decide ((m11 (bf .i64 (69) (an .i64 (bF .u64 (an .u64 (os.getD i.toNat (aS (Ty.int .i64)))) (130))),())).1=0)then
   bif bif !decide (e=0)then true else decide ((m11 (bf .i64 (69) (an .i64 (bF .u64 (an .u64 (os.getD i.toNat (aS (Ty.int .i64)))) (130))),())).1=0)then
    some (.next (aN cU (x,os,ys,app cs [(bf .i64 (69) (an .i64 (bF .u64 (an .u64 (os.getD i.toNat (aS (Ty.int .i64)))) (130))),i,0)],w,e,false,bf .i64 i (1),())))
   else
   bif decide ((m11 (bf .i64 (69) (an .i64 (bF .u64 (an .u64 (os.getD i.toNat (aS (Ty.int .i64)))) (130))),())).1=2)then
    bI (wU (bf .i64 (69) (an .i64 (bF .u64 (an .u64 (os.getD i.toNat (aS (Ty.int .i64)))) (130))),w,an .u64 i,())) (
    some (.next (aN cU (x,os,ys,app cs [(bf .i64 (69) (an .i64 (bF .u64 (an .u64 (os.getD i.toNat (aS (Ty.int .i64)))) (130))),i,0)],(m12 (bf .i64 (69) (an .i64 (bF .u64 (an .u64 (os.getD i.toNat (aS (Ty.int .i64)))) (130))),w,an .u64 i,())).1,(m12 (bf .i64 (69) (an .i64 (bF .u64 (an .u64 (os.getD i.toNat (aS (Ty.int .i64)))) (130))),w,an .u64 i,())).2.1,false,bf .i64 i (1),()))))
   else
   bI (wV (bf .i64 (69) (an .i64 (bF .u64 (an .u64 (os.getD i.toNat (aS (Ty.int .i64)))) (130))),w,())) (
   some (.next (aN cU (x,os,ys,app cs [(bf .i64 (69) (an .i64 (bF .u64 (an .u64 (os.getD i.toNat (aS (Ty.int .i64)))) (130))),i,0)],(m13 (bf .i64 (69) (an .i64 (bF .u64 (an .u64 (os.getD i.toNat (aS (Ty.int .i64)))) (130))),w,())).1,(m13 (bf .i64 (69) (an .i64 (bF .u64 (an .u64 (os.getD i.toNat (aS (Ty.int .i64)))) (130))),w,())).2.1,false,bf .i64 i (1),()))))
  else
  bif bif !decide (e=0)then true else decide ((m11 (bf .i64 (69) (an .i64 (bF .u64 (an .u64 (os.getD i.toNat (aS (Ty.int .i64)))) (130))),())).1=0)then
   some (.next (aN cU (x,os,ys,app cs [(bf .i64 (69) (an .i64 (bF .u64 (an .u64 (os.getD i.toNat (aS (Ty.int .i64)))) (130))),i,0)],w,e,lg,bf .i64 i (1),())))
  else
  bif decide ((m11 (bf .i64 (69) (an .i64 (bF .u64 (an .u64 (os.getD i.toNat (aS (Ty.int .i64)))) (130))),())).1=2)then
   bI (wU (bf .i64 (69) (an .i64 (bF .u64 (an .u64 (os.getD i.toNat (aS (Ty.int .i64)))) (130))),w,an .u64 i,())) (
   some (.next (aN cU (x,os,ys,app cs [(bf .i64 (69) (an .i64 (bF .u64 (an .u64 (os.getD i.toNat (aS (Ty.int .i64)))) (130))),i,0)],(m12 (bf .i64 (69) (an .i64 (bF .u64 (an .u64 (os.getD i.toNat (aS (Ty.int .i64)))) (130))),w,an .u64 i,())).1,(m12 (bf .i64 (69) (an .i64 (bF .u64 (an .u64 (os.getD i.toNat (aS (Ty.int .i64)))) (130))),w,an .u64 i,())).2.1,lg,bf .i64 i (1),()))))
  else
  bI (wV (bf .i64 (69) (an .i64 (bF .u64 (an .u64 (os.getD i.toNat (aS (Ty.int .i64)))) (130))),w,())) (
  some (.next (aN cU (x,os,ys,app cs [(bf .i64 (69) (an .i64 (bF .u64 (an .u64 (os.getD i.toNat (aS (Ty.int .i64)))) (130))),i,0)],(m13 (bf .i64 (69) (an .i64 (bF .u64 (an .u64 (os.getD i.toNat (aS (Ty.int .i64)))) (130))),w,())).1,(m13 (bf .i64 (69) (an .i64 (bF .u64 (an .u64 (os.getD i.toNat (aS (Ty.int .i64)))) (130))),w,())).2.1,lg,bf .i64 i (1),())))))))
 else
 some (.out 0 (aN ic (x,cs,w,e,lg,()))):=by kernel_rfl
end Go.Proofs.Vq

noncomputable section
namespace Go.Proofs.Vq
open Go.Ab Go.Ab.Lf
set_option maxRecDepth 100000
theorem abq(o x:Int):(t13 (o,x,())).val=
 bI (yN (o,())) (
 bif !decide ((m11 (o,())).1=1)then
  some (aN gu (0,1,()))
 else
 bif decide (o=69)then
  bif decide (an .u32 x=0)then
   some (aN gu (1,0,()))
  else
  some (aN gu (0,0,()))
 else
 bif decide (o=80)then
  bif decide (x=0)then
   some (aN gu (1,0,()))
  else
  some (aN gu (0,0,()))
 else
 bif decide (o=103)then
  bI (decide (0<=an .u32 x)&&decide (an .u32 x<=4294967295)) (
  some (aN gu (an .u64 (lz 32 (an .u32 x)),0,())))
 else
 bif decide (o=104)then
  bI (decide (0<=an .u32 x)&&decide (an .u32 x<=4294967295)) (
  some (aN gu (an .u64 (tz 32 (an .u32 x)),0,())))
 else
 bif decide (o=105)then
  bI (k51 (an .u32 x,())) (
  some (aN gu (an .u64 (m51 (an .u32 x,())).1,0,())))
 else
 bif decide (o=121)then
  bI (decide (0<=x)&&decide (x<=18446744073709551615)) (
  some (aN gu (an .u64 (lz 64 x),0,())))
 else
 bif decide (o=122)then
  bI (decide (0<=x)&&decide (x<=18446744073709551615)) (
  some (aN gu (an .u64 (tz 64 x),0,())))
 else
 bif decide (o=123)then
  bI (k54 (x,())) (
  some (aN gu (an .u64 (m54 (x,())).1,0,())))
 else
 bif decide (o=172)then
  some (aN gu (an .u64 (an .i32 x),0,()))
 else
 bif decide (o=196)then
  some (aN gu (an .u64 (an .i32 x),0,()))
 else
 bif decide (o=192)then
  some (aN gu (an .u64 (an .u32 (an .i8 x)),0,()))
 else
 bif decide (o=193)then
  some (aN gu (an .u64 (an .u32 (an .i16 x)),0,()))
 else
 bif decide (o=194)then
  some (aN gu (an .u64 (an .i8 x),0,()))
 else
 bif decide (o=195)then
  some (aN gu (an .u64 (an .i16 x),0,()))
 else
 some (aN gu (an .u64 (an .u32 x),0,()))):=by kernel_rfl
theorem abr(o x y:Int):(t12 (o,x,y,())).val=
 bI (yN (o,())) (
 bif !decide ((m11 (o,())).1=2)then
  some (aN bU (0,1,()))
 else
 bif decide (o<=79)then
  bif decide (bm .i64 o (70)=0)then
   bif decide (an .i64 (an .i32 x)=an .i64 (an .i32 y))then
    some (aN bU (1,0,()))
   else
   some (aN bU (0,0,()))
  else
  bif decide (bm .i64 o (70)=1)then
   bif !decide (an .i64 (an .i32 x)=an .i64 (an .i32 y))then
    some (aN bU (1,0,()))
   else
   some (aN bU (0,0,()))
  else
  bif decide (bm .i64 o (70)=2)then
   bif decide (an .i64 (an .i32 x)<an .i64 (an .i32 y))then
    some (aN bU (1,0,()))
   else
   some (aN bU (0,0,()))
  else
  bif decide (bm .i64 o (70)=3)then
   bif decide (an .u64 (an .i64 (an .i32 x))<an .u64 (an .i64 (an .i32 y)))then
    some (aN bU (1,0,()))
   else
   some (aN bU (0,0,()))
  else
  bif decide (bm .i64 o (70)=4)then
   bif decide (an .i64 (an .i32 y)<an .i64 (an .i32 x))then
    some (aN bU (1,0,()))
   else
   some (aN bU (0,0,()))
  else
  bif decide (bm .i64 o (70)=5)then
   bif decide (an .u64 (an .i64 (an .i32 y))<an .u64 (an .i64 (an .i32 x)))then
    some (aN bU (1,0,()))
   else
   some (aN bU (0,0,()))
  else
  bif decide (bm .i64 o (70)=6)then
   bif decide (an .i64 (an .i32 x)<=an .i64 (an .i32 y))then
    some (aN bU (1,0,()))
   else
   some (aN bU (0,0,()))
  else
  bif decide (bm .i64 o (70)=7)then
   bif decide (an .u64 (an .i64 (an .i32 x))<=an .u64 (an .i64 (an .i32 y)))then
    some (aN bU (1,0,()))
   else
   some (aN bU (0,0,()))
  else
  bif decide (bm .i64 o (70)=8)then
   bif decide (an .i64 (an .i32 y)<=an .i64 (an .i32 x))then
    some (aN bU (1,0,()))
   else
   some (aN bU (0,0,()))
  else
  bif decide (an .u64 (an .i64 (an .i32 y))<=an .u64 (an .i64 (an .i32 x)))then
   some (aN bU (1,0,()))
  else
  some (aN bU (0,0,()))
 else
 bif decide (o<=90)then
  bif decide (bm .i64 o (81)=0)then
   bif decide (an .i64 x=an .i64 y)then
    some (aN bU (1,0,()))
   else
   some (aN bU (0,0,()))
  else
  bif decide (bm .i64 o (81)=1)then
   bif !decide (an .i64 x=an .i64 y)then
    some (aN bU (1,0,()))
   else
   some (aN bU (0,0,()))
  else
  bif decide (bm .i64 o (81)=2)then
   bif decide (an .i64 x<an .i64 y)then
    some (aN bU (1,0,()))
   else
   some (aN bU (0,0,()))
  else
  bif decide (bm .i64 o (81)=3)then
   bif decide (an .u64 (an .i64 x)<an .u64 (an .i64 y))then
    some (aN bU (1,0,()))
   else
   some (aN bU (0,0,()))
  else
  bif decide (bm .i64 o (81)=4)then
   bif decide (an .i64 y<an .i64 x)then
    some (aN bU (1,0,()))
   else
   some (aN bU (0,0,()))
  else
  bif decide (bm .i64 o (81)=5)then
   bif decide (an .u64 (an .i64 y)<an .u64 (an .i64 x))then
    some (aN bU (1,0,()))
   else
   some (aN bU (0,0,()))
  else
  bif decide (bm .i64 o (81)=6)then
   bif decide (an .i64 x<=an .i64 y)then
    some (aN bU (1,0,()))
   else
   some (aN bU (0,0,()))
  else
  bif decide (bm .i64 o (81)=7)then
   bif decide (an .u64 (an .i64 x)<=an .u64 (an .i64 y))then
    some (aN bU (1,0,()))
   else
   some (aN bU (0,0,()))
  else
  bif decide (bm .i64 o (81)=8)then
   bif decide (an .i64 y<=an .i64 x)then
    some (aN bU (1,0,()))
   else
   some (aN bU (0,0,()))
  else
  bif decide (an .u64 (an .i64 y)<=an .u64 (an .i64 x))then
   some (aN bU (1,0,()))
  else
  some (aN bU (0,0,()))
 else
 bif decide (o<=120)then
  bif bif decide (109<=o)then bif decide (o<=112)then decide (an .u32 y=0)else false else false then
   some (aN bU (an .u64 (0),21,()))
  else
  bif decide (o=106)then
   some (aN bU (an .u64 (bf .u32 (an .u32 x) (an .u32 y)),0,()))
  else
  bif decide (o=107)then
   some (aN bU (an .u64 (bm .u32 (an .u32 x) (an .u32 y)),0,()))
  else
  bif decide (o=108)then
   some (aN bU (an .u64 (NI .u32 (an .u32 x) (an .u32 y)),0,()))
  else
  bif decide (o=109)then
   bif bif decide (an .u32 x=2147483648)then decide (an .u32 y=4294967295)else false then
    some (aN bU (an .u64 (0),22,()))
   else
   bI (!decide (an .i32 (an .u32 y)=0)) (
   some (aN bU (an .u64 (an .u32 (Eg .i32 (an .i32 (an .u32 x)) (an .i32 (an .u32 y)))),0,())))
  else
  bif decide (o=110)then
   bI (!decide (an .u32 y=0)) (
   some (aN bU (an .u64 (Eg .u32 (an .u32 x) (an .u32 y)),0,())))
  else
  bif decide (o=111)then
   bI (!decide (an .i64 (an .i32 (an .u32 y))=0)) (
   some (aN bU (an .u64 (an .u32 (bF .i64 (an .i64 (an .i32 (an .u32 x))) (an .i64 (an .i32 (an .u32 y))))),0,())))
  else
  bif decide (o=112)then
   bI (!decide (an .u32 y=0)) (
   some (aN bU (an .u64 (bF .u32 (an .u32 x) (an .u32 y)),0,())))
  else
  bif decide (o=113)then
   some (aN bU (an .u64 (cA .u32 (an .u32 x) (an .u32 y)),0,()))
  else
  bif decide (o=114)then
   some (aN bU (an .u64 (IV .u32 (an .u32 x) (an .u32 y)),0,()))
  else
  bif decide (o=115)then
   some (aN bU (an .u64 (Eh .u32 (an .u32 x) (an .u32 y)),0,()))
  else
  bif decide (o=116)then
   bI (decide (0<=cA .u32 (an .u32 y) (31))) (
   some (aN bU (an .u64 (ub .u32 (an .u32 x) (cA .u32 (an .u32 y) (31))),0,())))
  else
  bif decide (o=117)then
   bI (decide (0<=cA .u32 (an .u32 y) (31))) (
   some (aN bU (an .u64 (an .u32 (ja .i32 (an .i32 (an .u32 x)) (cA .u32 (an .u32 y) (31)))),0,())))
  else
  bif decide (o=118)then
   bI (decide (0<=cA .u32 (an .u32 y) (31))) (
   some (aN bU (an .u64 (ja .u32 (an .u32 x) (cA .u32 (an .u32 y) (31))),0,())))
  else
  bif decide (o=119)then
   bI (decide (0<=cA .u64 (an .u64 (an .i64 (cA .u32 (an .u32 y) (31)))) (31))&&decide (0<=bm .u64 (32) (cA .u64 (an .u64 (an .i64 (cA .u32 (an .u32 y) (31)))) (31)))) (
   some (aN bU (an .u64 (IV .u32 (ub .u32 (an .u32 x) (cA .u64 (an .u64 (an .i64 (cA .u32 (an .u32 y) (31)))) (31))) (ja .u32 (an .u32 x) (bm .u64 (32) (cA .u64 (an .u64 (an .i64 (cA .u32 (an .u32 y) (31)))) (31))))),0,())))
  else
  bI (decide (0<=cA .u64 (an .u64 (rS .i64 (an .i64 (cA .u32 (an .u32 y) (31))))) (31))&&decide (0<=bm .u64 (32) (cA .u64 (an .u64 (rS .i64 (an .i64 (cA .u32 (an .u32 y) (31))))) (31)))) (
  some (aN bU (an .u64 (IV .u32 (ub .u32 (an .u32 x) (cA .u64 (an .u64 (rS .i64 (an .i64 (cA .u32 (an .u32 y) (31))))) (31))) (ja .u32 (an .u32 x) (bm .u64 (32) (cA .u64 (an .u64 (rS .i64 (an .i64 (cA .u32 (an .u32 y) (31))))) (31))))),0,())))
 else
 bif bif decide (127<=o)then bif decide (o<=130)then decide (y=0)else false else false then
  some (aN bU (0,21,()))
 else
 bif decide (o=124)then
  some (aN bU (bf .u64 x y,0,()))
 else
 bif decide (o=125)then
  some (aN bU (bm .u64 x y,0,()))
 else
 bif decide (o=126)then
  some (aN bU (NI .u64 x y,0,()))
 else
 bif decide (o=127)then
  bif bif decide (x=9223372036854775808)then decide (y=18446744073709551615)else false then
   some (aN bU (0,22,()))
  else
  bI (!decide (an .i64 y=0)) (
  some (aN bU (an .u64 (Eg .i64 (an .i64 x) (an .i64 y)),0,())))
 else
 bif decide (o=128)then
  bI (!decide (y=0)) (
  some (aN bU (Eg .u64 x y,0,())))
 else
 bif decide (o=129)then
  bif decide (y=18446744073709551615)then
   some (aN bU (0,0,()))
  else
  bI (!decide (an .i64 y=0)) (
  some (aN bU (an .u64 (bF .i64 (an .i64 x) (an .i64 y)),0,())))
 else
 bif decide (o=130)then
  bI (!decide (y=0)) (
  some (aN bU (bF .u64 x y,0,())))
 else
 bif decide (o=131)then
  some (aN bU (cA .u64 x y,0,()))
 else
 bif decide (o=132)then
  some (aN bU (IV .u64 x y,0,()))
 else
 bif decide (o=133)then
  some (aN bU (Eh .u64 x y,0,()))
 else
 bif decide (o=134)then
  bI (decide (0<=cA .u64 y (63))) (
  some (aN bU (ub .u64 x (cA .u64 y (63)),0,())))
 else
 bif decide (o=135)then
  bI (decide (0<=cA .u64 y (63))) (
  some (aN bU (an .u64 (ja .i64 (an .i64 x) (cA .u64 y (63))),0,())))
 else
 bif decide (o=136)then
  bI (decide (0<=cA .u64 y (63))) (
  some (aN bU (ja .u64 x (cA .u64 y (63)),0,())))
 else
 bif decide (o=137)then
  bI (decide (0<=cA .u64 (an .u64 (an .i64 (cA .u64 y (63)))) (63))&&decide (0<=bm .u64 (64) (cA .u64 (an .u64 (an .i64 (cA .u64 y (63)))) (63)))) (
  some (aN bU (IV .u64 (ub .u64 x (cA .u64 (an .u64 (an .i64 (cA .u64 y (63)))) (63))) (ja .u64 x (bm .u64 (64) (cA .u64 (an .u64 (an .i64 (cA .u64 y (63)))) (63)))),0,())))
 else
 bI (decide (0<=cA .u64 (an .u64 (rS .i64 (an .i64 (cA .u64 y (63))))) (63))&&decide (0<=bm .u64 (64) (cA .u64 (an .u64 (rS .i64 (an .i64 (cA .u64 y (63))))) (63)))) (
 some (aN bU (IV .u64 (ub .u64 x (cA .u64 (an .u64 (rS .i64 (an .i64 (cA .u64 y (63))))) (63))) (ja .u64 x (bm .u64 (64) (cA .u64 (an .u64 (rS .i64 (an .i64 (cA .u64 y (63))))) (63)))),0,())))):=by kernel_rfl
theorem Xv(o:Int):(t11 (o,())).val=
 bif decide (o=69)then
  some (aN kf (1,()))
 else
 bif decide (o=80)then
  some (aN kf (1,()))
 else
 bif bif decide (103<=o)then decide (o<=105)else false then
  some (aN kf (1,()))
 else
 bif bif decide (121<=o)then decide (o<=123)else false then
  some (aN kf (1,()))
 else
 bif decide (o=167)then
  some (aN kf (1,()))
 else
 bif decide (o=172)then
  some (aN kf (1,()))
 else
 bif decide (o=173)then
  some (aN kf (1,()))
 else
 bif bif decide (192<=o)then decide (o<=196)else false then
  some (aN kf (1,()))
 else
 bif bif decide (70<=o)then decide (o<=79)else false then
  some (aN kf (2,()))
 else
 bif bif decide (81<=o)then decide (o<=90)else false then
  some (aN kf (2,()))
 else
 bif bif decide (106<=o)then decide (o<=120)else false then
  some (aN kf (2,()))
 else
 bif bif decide (124<=o)then decide (o<=138)else false then
  some (aN kf (2,()))
 else
 some (aN kf (0,())):=by kernel_rfl
end Go.Proofs.Vq

noncomputable section
namespace Go.Ab.Lf
def K9(to:List Ty)(t:T (List Pl)):Bool:=
 T.rec (motive:=fun _=>Bool) false (fun l=>(toT to l).isSome) (fun _ _ _ a b=>a&&b) (fun _ _ _=>false) t
theorem pY{to:List Ty}: ∀ {t:T (List Pl)},K9 to t=true->dN to t=true
 | .bad,h=>by cases h
 | .ok l,h=>by
  have h:(toT to l).isSome=true:=h
  show(match toT to l with|some _=>true|none=>false)=true
  cases hq:toT to l with
  |none=>rw[hq]at h;cases h
  |some y=>rfl
 | .br c a b,h=>by
  have h:(K9 to a&&K9 to b)=true:=h
  obtain⟨h1,h2⟩:=Bool.and_eq_true_iff.1 h
  have q1:=pY h1
  have q2:=pY h2
  unfold dN at*
  rw[T.uo]
  cases c
  ·exact q2
  ·exact q1
 | .ck c a,h=>by cases h
def Gy(to:List Ty)(t:T (List Pl)):Bool:=
 T.rec (motive:=fun _=>Bool) false (fun l=>(toT to l).isSome) (fun _ _ _ a b=>a&&b) (fun _ _ a=>a) t
def Gz(t:T (List Pl)):List Bool:=T.rec (motive:=fun _=>List Bool) [] (fun _=>[]) (fun _ _ _ a b=>app a b) (fun c _ a=>c::a) t
theorem pZ{to:List Ty}: ∀ {t:T (List Pl)},Gy to t=true->(∀ c,c∈Gz t->c=true)->dN to t=true
 | .bad,h,_=>by cases h
 | .ok l,h,_=>pY (t:=.ok l) h
 | .br c a b,h,k=>by
  have h:(Gy to a&&Gy to b)=true:=h
  have k: ∀ d,d∈app (Gz a) (Gz b)->d=true:=k
  rw[bO]at k
  obtain⟨h1,h2⟩:=Bool.and_eq_true_iff.1 h
  have q1:=pZ h1 fun d hd=>k d (List.mem_append_left _ hd)
  have q2:=pZ h2 fun d hd=>k d (List.mem_append_right _ hd)
  unfold dN at*
  rw[T.uo]
  cases c
  ·exact q2
  ·exact q1
 | .ck c a,h,k=>by
  have h:Gy to a=true:=h
  have k: ∀ d,d∈c::Gz a->d=true:=k
  have q1:=pZ h fun d hd=>k d (List.mem_cons_of_mem _ hd)
  have hc:c=true:=k c (List.mem_cons_self ..)
  subst hc
  unfold dN at*
  rw[T.EB]
  exact q1
end Go.Ab.Lf
namespace Go.Proofs.Vq
open Go.Ab Go.Ab.Lf
set_option maxRecDepth 100000
def U(z:Int):Prop:=0<=z/\z<=18446744073709551615
theorem GA{α:Type}{c:Bool}{x:Option α}(h:c=true):bI c x=x:=by rw[h];rfl
def gD(to:List Ty)(P:aI to->Prop)(v:Option (List Pl)):Prop:= ∃ y,v=some (aN to y)/\P y
theorem gD.bif{to:List Ty}{P:aI to->Prop}{c:Bool}{a b:Option (List Pl)}(h1:c=true->gD to P a)(h2:c=false->gD to P b):gD to P (bif c then a else b):=by
 cases c
 ·exact h2 rfl
 ·exact h1 rfl
theorem gD.ck{to:List Ty}{P:aI to->Prop}{c:Bool}{a:Option (List Pl)}(h:c=true)(h1:gD to P a):gD to P (bI c a):=by rw[GA h];exact h1
theorem gD.ok{to:List Ty}{P:aI to->Prop}{y:aI to}(h:P y):gD to P (some (aN to y)):=⟨y,rfl,h⟩
theorem gD.km{to:List Ty}{P:aI to->Prop}{t:Lf.T (List Pl)}{k:Bool}{m:aI to}(hk:k=dN to t)(hm:m=cT to t)(h:gD to P t.val):k=true/\P m:=by
 obtain⟨y,h1,h2⟩:=h
 obtain⟨a,b⟩:=dD hk hm h1
 exact⟨a,by rw[b];exact h2⟩
theorem o3(o:Int):yN (o,())=true/\((m11 (o,())).1=0∨(m11 (o,())).1=1∨(m11 (o,())).1=2):=by
 refine gD.km (P:=fun y:aI kf=>y.1=0∨y.1=1∨y.1=2) (aq _) (aq _) ?_
 rw[Xv]
 repeat' first
  |exact gD.ok (.inl rfl)
  |exact gD.ok (.inr (.inl rfl))
  |exact gD.ok (.inr (.inr rfl))
  |refine gD.bif (fun _=>?_) (fun _=>?_)
theorem rA(n:Int):U (an .u64 n):=⟨Int.emod_nonneg n (by decide),by have:=Int.emod_lt_of_pos n (show(0:Int)<18446744073709551616 by decide);show n % 18446744073709551616<=_;omega⟩
theorem P8(n:Int):U (cF .u64 n):=rA n
theorem oK(n:Int):0<=an .u32 n/\an .u32 n<=4294967295:=⟨Int.emod_nonneg n (by decide),by have:=Int.emod_lt_of_pos n (show(0:Int)<4294967296 by decide);show n % 4294967296<=_;omega⟩
theorem abt(n:Int):(decide (0<=an .u32 n)&&decide (an .u32 n<=4294967295))=true:=by
 obtain⟨a,b⟩:=oK n
 rw[decide_eq_true a,decide_eq_true b];rfl
theorem ckU{x:Int}(h:U x):(decide (0<=x)&&decide (x<=18446744073709551615))=true:=by
 rw[decide_eq_true h.1,decide_eq_true h.2];rfl
theorem A1(a b:Nat)(ha:a<4294967296)(hb:b<4294967296):cA .u32 (a:Int) (b:Int)=((a &&& b:Nat):Int):=by
 show intOf (bif Nat.blt a 4294967296&&Nat.blt b 4294967296 then some (.int .u32 (.ofNat (Nat.land a b)))else _)=_
 rw[show(Nat.blt a 4294967296)=true by simpa using ha,show(Nat.blt b 4294967296)=true by simpa using hb]
 rfl
theorem K'(a b:Nat)(ha:a<18446744073709551616)(hb:b<18446744073709551616):cA .u64 (a:Int) (b:Int)=((a &&& b:Nat):Int):=by
 show intOf (bif Nat.blt a 18446744073709551616&&Nat.blt b 18446744073709551616 then some (.int .u64 (.ofNat (Nat.land a b)))else _)=_
 rw[show(Nat.blt a 18446744073709551616)=true by simpa using ha,show(Nat.blt b 18446744073709551616)=true by simpa using hb]
 rfl
theorem A2{n:Int}(h0:0<=n)(h1:n<256):cu n 256=true:=by rw[kO];exact⟨h0,h1⟩
theorem y7{n:Int}(h0:0<=n)(h1:n<=4294967295):0<=cA .u32 n 255/\cA .u32 n 255<256:=by
 obtain⟨a,rfl⟩: ∃ a:Nat,n=a:=⟨n.toNat,by omega⟩
 have e:cA .u32 (a:Int) 255=((a &&& 255:Nat):Int):=A1 a 255 (by omega) (by omega)
 have:=Nat.and_le_right (n:=a) (m:=255)
 rw[e]
 omega
theorem uR(n:Int)(p:Int)(h0:0<=n)(hp:0<p):0<=Int.fdiv n p/\Int.fdiv n p<=n:=by
 rw[Int.fdiv_eq_ediv_of_nonneg _ (by omega)]
 exact⟨Int.ediv_nonneg h0 (by omega),Int.ediv_le_self _ h0⟩
theorem c51(x:Int):Gz (t51 (x,()))=[cu (ja .u32 x 24) 256&&(cu (cA .u32 (ja .u32 x 16) 255) 256&&(cu (cA .u32 (ja .u32 x 8) 255) 256&&cu (cA .u32 x 255) 256))]:=by kernel_rfl
theorem f51(x:Int):Gy FX (t51 (x,()))=true:=by kernel_rfl
theorem Xw{x:Int}(h0:0<=x)(h1:x<=4294967295):k51 (x,())=true:=by
 refine(aq _).trans (pZ (f51 x) fun c hc=>?_)
 rw[c51]at hc
 have e24:ja .u32 x 24=Int.fdiv x (2 ^ 24:Nat):=rfl
 have Yw:ja .u32 x 16=Int.fdiv x (2 ^ 16:Nat):=rfl
 have e8:ja .u32 x 8=Int.fdiv x (2 ^ 8:Nat):=rfl
 have b16:=uR x ((2 ^ 16:Nat):Int) h0 (by decide)
 have b8:=uR x ((2 ^ 8:Nat):Int) h0 (by decide)
 have a1:cu (ja .u32 x 24) 256=true:=by
  rw[e24,Int.fdiv_eq_ediv_of_nonneg _ (by decide)]
  exact A2 (by omega) (by omega)
 have a2:cu (cA .u32 (ja .u32 x 16) 255) 256=true:=by rw[Yw];have:=y7 b16.1 (by omega);exact A2 this.1 this.2
 have a3:cu (cA .u32 (ja .u32 x 8) 255) 256=true:=by rw[e8];have:=y7 b8.1 (by omega);exact A2 this.1 this.2
 have a4:cu (cA .u32 x 255) 256=true:=by have:=y7 h0 h1;exact A2 this.1 this.2
 rw[a1,a2,a3,a4]at hc
 simpa using hc
theorem f54(x:Int):K9 FZ (t54 (x,()))=true:=by kernel_rfl
theorem Xx(x:Int):k54 (x,())=true:=(aq _).trans (pY (f54 x))
theorem U0:U 0:=⟨by decide,by decide⟩
theorem U1:U 1:=⟨by decide,by decide⟩
theorem A3(o x:Int)(hx:U x):wV (o,x,())=true/\U (m13 (o,x,())).1:=by
 refine gD.km (P:=fun y:aI gu=>U y.1) (aq _) (aq _) ?_
 rw[abq]
 refine gD.ck (o3 o).1 ?_
 repeat' with_reducible first
  |refine gD.bif (fun _=>?_) (fun _=>?_)
  |refine gD.ck (abt _) ?_
  |refine gD.ck (ckU hx) ?_
  |refine gD.ck (Xw (oK _).1 (oK _).2) ?_
  |refine gD.ck (Xx _) ?_
  |exact gD.ok (P:=fun y:aI gu=>U y.1) (rA _)
  |exact gD.ok (P:=fun y:aI gu=>U y.1) U0
  |exact gD.ok (P:=fun y:aI gu=>U y.1) U1
theorem Xy{x:Int}(y:Int)(h:U x):U (bF .u64 x y):=by
 obtain⟨a,rfl⟩: ∃ a:Nat,x=a:=⟨x.toNat,by have:=h.1;omega⟩
 unfold bF
 have h0:=h.2
 have h1:0<=Int.tmod (a:Int) y:=Int.tmod_nonneg _ (by omega)
 refine⟨h1,?_⟩
 have h2:Int.tmod (a:Int) y<=a:=by
  obtain⟨b,hb⟩:=Int.eq_nat_or_neg y
  rcases hb with rfl|rfl
  ·rw[<-Int.ofNat_tmod];have:=Nat.mod_le a b;omega
  ·rw[Int.tmod_neg,<-Int.ofNat_tmod];have:=Nat.mod_le a b;omega
 omega
theorem GB{x:Int}(h:U x): ∃ a:Nat,x=a/\a<18446744073709551616:=⟨x.toNat,by have:=h.1;omega,by have:=h.2;have:=h.1;omega⟩
theorem s6{x y:Int}(hx:U x)(hy:U y):U (cA .u64 x y)/\U (IV .u64 x y)/\U (Eh .u64 x y):=by
 obtain⟨a,rfl,ha⟩:=GB hx
 obtain⟨b,rfl,hb⟩:=GB hy
 have hh:(Nat.blt a 18446744073709551616&&Nat.blt b 18446744073709551616)=true:=by
  rw[show(Nat.blt a 18446744073709551616)=true by simpa using ha,show(Nat.blt b 18446744073709551616)=true by simpa using hb];rfl
 have e1:cA .u64 (a:Int) (b:Int)=((a &&& b:Nat):Int):=K' a b ha hb
 have e2:IV .u64 (a:Int) (b:Int)=((a ||| b:Nat):Int):=by
  show intOf (bif Nat.blt a 18446744073709551616&&Nat.blt b 18446744073709551616 then some (.int .u64 (.ofNat (Nat.lor a b)))else _)=_
  rw[hh];rfl
 have e3:Eh .u64 (a:Int) (b:Int)=((a ^^^ b:Nat):Int):=by
  show intOf (bif Nat.blt a 18446744073709551616&&Nat.blt b 18446744073709551616 then some (.int .u64 (.ofNat (Nat.xor a b)))else _)=_
  rw[hh];rfl
 have l1:a &&& b<2 ^ 64:=Nat.and_lt_two_pow _ (by omega)
 have l2:a ||| b<2 ^ 64:=Nat.or_lt_two_pow (by omega) (by omega)
 have l3:a ^^^ b<2 ^ 64:=Nat.xor_lt_two_pow (by omega) (by omega)
 rw[e1,e2,e3]
 exact⟨⟨by omega,by omega⟩,⟨by omega,by omega⟩,⟨by omega,by omega⟩⟩
theorem A4{y:Int}(hy:U y):0<=cA .u64 y 63:=(s6 hy (y:=63) ⟨by decide,by decide⟩).1.1
theorem Xz(y:Int):0<=cA .u32 (an .u32 y) 31:=by
 obtain⟨h0,h1⟩:=oK y
 obtain⟨a,ha⟩: ∃ a:Nat,an .u32 y=a:=⟨(an .u32 y).toNat,by omega⟩
 rw[ha,show cA .u32 (a:Int) 31=((a &&& 31:Nat):Int)from A1 a 31 (by omega) (by omega)]
 omega
theorem Ma{x n:Int}(hx:U x)(hn:0<=n):U (ja .u64 x n):=by
 obtain⟨k,rfl⟩: ∃ k:Nat,n=k:=⟨n.toNat,by omega⟩
 have e:ja .u64 x (k:Int)=Int.fdiv x ((2 ^ lK k 64:Nat):Int):=rfl
 have hp:(0:Int)<((2 ^ lK k 64:Nat):Int):=by have:=Nat.two_pow_pos (lK k 64);omega
 have:=uR x _ hx.1 hp
 rw[e]
 exact⟨this.1,by have:=hx.2;omega⟩
theorem Mb{x n:Int}(hn:0<=n):U (ub .u64 x n):=by
 obtain⟨k,rfl⟩: ∃ k:Nat,n=k:=⟨n.toNat,by omega⟩
 exact P8 _
theorem Mc(a b:Int):0<=bm .u64 a b:=(P8 _).1
theorem Md{a b:Int}(h:0<=a):(decide (0<=a)&&decide (0<=bm .u64 b a))=true:=by
 rw[decide_eq_true h,decide_eq_true (Mc b a)];rfl
theorem GC{y:Int}(h: ¬ an .u32 y=0): ¬ an .i32 (an .u32 y)=0:=by
 obtain⟨h0,h1⟩:=oK y
 generalize an .u32 y=z at*
 have e:an .i32 z=(z+2147483648) % 4294967296 - 2147483648:=rfl
 omega
theorem GD{z:Int}(h0:U z)(h: ¬ z=0): ¬ an .i64 z=0:=by
 obtain⟨h0,h1⟩:=h0
 have e:an .i64 z=(z+9223372036854775808) % 18446744073709551616 - 9223372036854775808:=rfl
 omega
theorem Co{y:Int}(h: ¬ an .u32 y=0): ¬ an .i64 (an .i32 (an .u32 y))=0:=by
 have k:=GC h
 obtain⟨h0,h1⟩:=oK y
 generalize an .u32 y=z at*
 have e:an .i32 z=(z+2147483648) % 4294967296 - 2147483648:=rfl
 have e2:an .i64 (an .i32 z)=(an .i32 z+9223372036854775808) % 18446744073709551616 - 9223372036854775808:=rfl
 omega
theorem nb{p:Prop}[Decidable p](h: ¬ p):(!decide p)=true:=by rw[decide_eq_false h];rfl
end Go.Proofs.Vq

noncomputable section
namespace Go.Proofs.Vq
open Go.Ab Go.Ab.Lf
set_option maxRecDepth 100000
theorem o4{o k lo:Int}(h:decide (o=k)=true)(hk:lo<=k):lo<=o:=by have:=of_decide_eq_true h;omega
theorem o5{o k hi:Int}(h:decide (o=k)=true)(hk:k<=hi):o<=hi:=by have:=of_decide_eq_true h;omega
theorem Me{o lo hi:Int}{p:Prop}[Decidable p](h:(bif decide (lo<=o)then bif decide (o<=hi)then decide p else false else false)=false)(h1:lo<=o)(h2:o<=hi): ¬ p:=by
 rw[decide_eq_true h1,decide_eq_true h2]at h
 exact of_decide_eq_false h
theorem uS(o x y:Int)(hx:U x)(hy:U y):wU (o,x,y,())=true/\U (m12 (o,x,y,())).1:=by
 refine gD.km (P:=fun y:aI bU=>U y.1) (aq _) (aq _) ?_
 rw[abr]
 refine gD.ck (o3 o).1 ?_
 have l63: ∀ z,0<=cA .u64 (an .u64 z) 63:=fun z=>A4 (rA z)
 have l31: ∀ z,0<=cA .u64 (an .u64 z) 31:=fun z=>(s6 (rA z) (y:=31) ⟨by decide,by decide⟩).1.1
 repeat' with_reducible first
  |refine gD.bif (fun _=>?_) (fun _=>?_)
  |exact gD.ok (P:=fun y:aI bU=>U y.1) (rA _)
  |exact gD.ok (P:=fun y:aI bU=>U y.1) U0
  |exact gD.ok (P:=fun y:aI bU=>U y.1) U1
  |exact gD.ok (P:=fun y:aI bU=>U y.1) (s6 hx hy).1
  |exact gD.ok (P:=fun y:aI bU=>U y.1) (s6 hx hy).2.1
  |exact gD.ok (P:=fun y:aI bU=>U y.1) (s6 hx hy).2.2
  |exact gD.ok (P:=fun y:aI bU=>U y.1) (Xy _ hx)
  |exact gD.ok (P:=fun y:aI bU=>U y.1) (Mb (A4 hy))
  |exact gD.ok (P:=fun y:aI bU=>U y.1) (Ma hx (A4 hy))
  |exact gD.ok (P:=fun y:aI bU=>U y.1) (s6 (Mb (l63 _)) (Ma hx (Mc _ _))).2.1
  |refine gD.ck (decide_eq_true (A4 hy)) ?_
  |refine gD.ck (decide_eq_true (Xz _)) ?_
  |refine gD.ck (Md (l63 _)) ?_
  |refine gD.ck (Md (l31 _)) ?_
  |refine gD.ck (nb (GC (Me (by assumption) (o4 (k:=109) (by assumption) (by decide)) (o5 (k:=109) (by assumption) (by decide))))) ?_
  |refine gD.ck (nb (Co (Me (by assumption) (o4 (k:=111) (by assumption) (by decide)) (o5 (k:=111) (by assumption) (by decide))))) ?_
  |refine gD.ck (nb (Me (lo:=109) (hi:=112) (by assumption) (o4 (k:=110) (by assumption) (by decide)) (o5 (k:=110) (by assumption) (by decide)))) ?_
  |refine gD.ck (nb (Me (lo:=109) (hi:=112) (by assumption) (o4 (k:=112) (by assumption) (by decide)) (o5 (k:=112) (by assumption) (by decide)))) ?_
  |refine gD.ck (nb (GD hy (Me (by assumption) (o4 (k:=127) (by assumption) (by decide)) (o5 (k:=127) (by assumption) (by decide))))) ?_
  |refine gD.ck (nb (GD hy (Me (by assumption) (o4 (k:=129) (by assumption) (by decide)) (o5 (k:=129) (by assumption) (by decide))))) ?_
  |refine gD.ck (nb (Me (lo:=127) (hi:=130) (by assumption) (o4 (k:=128) (by assumption) (by decide)) (o5 (k:=128) (by assumption) (by decide)))) ?_
  |refine gD.ck (nb (Me (lo:=127) (hi:=130) (by assumption) (o4 (k:=130) (by assumption) (by decide)) (o5 (k:=130) (by assumption) (by decide)))) ?_
 all_goals (refine gD.ok ?_;show U (cF .u64 _);exact P8 _)
end Go.Proofs.Vq

noncomputable section
namespace Go.Proofs.Vq
open Go.Ab Go.Ab.Lf
set_option maxRecDepth 100000
theorem nI(x:FR)(a b:Int)(ha:0<=a)(hb:0<=b)(si:b<=1099511627776)(hl:x.st.length<=1099511627776)(h1:a<=(x.st.length:Int))(h2:(x.st.length:Int) - a+b<=1048576):
 lP (aW [i64,i64] x (a,b,()))=true/\aL (aW [i64,i64] x (a,b,()))=(true,aW [] x ()):=by
 refine dD (aq _) (aq _) ?_
 rw[Xt]
 have e1:bm .i64 (x.st.length:Int) a=(x.st.length:Int) - a:=wrap_i64 (by omega) (by omega)
 have e2:bf .i64 ((x.st.length:Int) - a) b=(x.st.length:Int) - a+b:=wrap_i64 (by omega) (by omega)
 rw[e1,e2,decide_eq_false (by omega),decide_eq_false (by omega)]
 rfl
section
variable (g:Cg)(m:AE)(fu ho de:Int)(f2:den fw)(pc:Int)
theorem v32(w n:Int):PA (aW rz ⟨⟨m,fu,ho,de,0⟩,f2,pc,[],[w]⟩ (32,0,n,()))=true/\PB (aW rz ⟨⟨m,fu,ho,de,0⟩,f2,pc,[],[w]⟩ (32,0,n,()))=aW [] ⟨⟨m,fu,ho,de,0⟩,f2,pc,[w],[w]⟩ ():=by
 refine dD (aq _) (aq _) ?_
 have hn:=nI ⟨⟨m,fu,ho,de,0⟩,f2,pc,[],[w]⟩ 0 1 (by decide) (by decide) (by decide) (Nat.zero_le _) (by simp) (by simp)
 rw[Xu,hn.1,hn.2]
 show _=_
 kernel_rfl
theorem p32(w n:Int):yQ (aW rz ⟨⟨m,fu,ho,de,0⟩,f2,pc,[],[w]⟩ (32,0,n,()))=true/\xd (aW rz ⟨⟨m,fu,ho,de,0⟩,f2,pc,[],[w]⟩ (32,0,n,()))=aW [] ⟨⟨m,fu,ho,de,0⟩,f2,pc,[w],[w]⟩ ():=by
 refine dD (aq _) (aq _) ?_
 have hn:=v32 m fu ho de f2 pc w n
 rw[AY,hn.1,hn.2]
 show _=_
 kernel_rfl
theorem s32(w n:Int):yR g (aW rz ⟨⟨m,fu,ho,de,0⟩,f2,pc,[],[w]⟩ (32,0,n,()))=true/\yS g (aW rz ⟨⟨m,fu,ho,de,0⟩,f2,pc,[],[w]⟩ (32,0,n,()))=aW [] ⟨⟨m,fu,ho,de,0⟩,f2,bf .i64 pc 1,[w],[w]⟩ ():=by
 refine dD (aq _) (aq _) ?_
 have hn:=p32 m fu ho de f2 pc w n
 rw[AZ,hn.1,hn.2]
 show _=_
 kernel_rfl
theorem p66(w n:Int)(lo:List Int):yQ (aW rz ⟨⟨m,fu,ho,de,0⟩,f2,pc,[w],lo⟩ (66,0,n,()))=true/\xd (aW rz ⟨⟨m,fu,ho,de,0⟩,f2,pc,[w],lo⟩ (66,0,n,()))=aW [] ⟨⟨m,fu,ho,de,0⟩,f2,pc,[w,n],lo⟩ ():=by
 refine dD (aq _) (aq _) ?_
 have hn:=nI ⟨⟨m,fu,ho,de,0⟩,f2,pc,[w],lo⟩ 0 1 (by decide) (by decide) (by decide) (by simp) (by simp) (by simp)
 rw[AY,hn.1,hn.2]
 show _=_
 kernel_rfl
theorem s66(w n:Int)(lo:List Int):yR g (aW rz ⟨⟨m,fu,ho,de,0⟩,f2,pc,[w],lo⟩ (66,0,n,()))=true/\yS g (aW rz ⟨⟨m,fu,ho,de,0⟩,f2,pc,[w],lo⟩ (66,0,n,()))=aW [] ⟨⟨m,fu,ho,de,0⟩,f2,bf .i64 pc 1,[w,n],lo⟩ ():=by
 refine dD (aq _) (aq _) ?_
 have hn:=p66 m fu ho de f2 pc w n lo
 rw[AZ,hn.1,hn.2]
 show _=_
 kernel_rfl
theorem s15(w a n:Int)(cs:List (den cQ))(ms lo:List Int):yR g (aW rz ⟨⟨m,fu,ho,de,0⟩,((-1:Int),(0:Int),(1:Int),(1:Int),(0:Int),cs,ms),pc,[w],lo⟩ (15,a,n,()))=true/\yS g (aW rz ⟨⟨m,fu,ho,de,0⟩,((-1:Int),(0:Int),(1:Int),(1:Int),(0:Int),cs,ms),pc,[w],lo⟩ (15,a,n,()))=aW [] ⟨⟨m,fu,ho,de,0⟩,((-1:Int),(0:Int),(1:Int),(1:Int),(0:Int),cs,ms),-1,[w],lo⟩ ():=by
 refine dD (aq _) (aq _) ?_
 have hn:=nI ⟨⟨m,fu,ho,de,0⟩,((-1:Int),(0:Int),(1:Int),(1:Int),(0:Int),cs,ms),pc,[w],lo⟩ 1 0 (by decide) (by decide) (by decide) (by simp) (by simp) (by simp)
 have e:=AZ g ⟨⟨m,fu,ho,de,0⟩,((-1:Int),(0:Int),(1:Int),(1:Int),(0:Int),cs,ms),pc,[w],lo⟩ 15 a n
 dsimp only at e
 rw[hn.1,hn.2]at e
 rw[e]
 show _=_
 kernel_rfl
end
end Go.Proofs.Vq

noncomputable section
namespace Go.Proofs.Vq
open Go.Ab Go.Ab.Lf
set_option maxRecDepth 100000
theorem df{p:Prop}[Decidable p](h: ¬ p):decide p=false:=decide_eq_false h
theorem dt{p:Prop}[Decidable p](h:p):decide p=true:=decide_eq_true h
structure Cp(o:Int):Prop where
 lo:69<=o
 hi:o<=198
section
variable (g:Cg)(m:AE)(fu ho de:Int)(f2:den fw)(pc:Int)
theorem XA{x x':FR}{o a n:Int}(ho:Cp o)(h:yQ (aW rz x (o,a,n,()))=true/\xd (aW rz x (o,a,n,()))=aW [] x' ()):
 yR g (aW rz x (o,a,n,()))=true/\yS g (aW rz x (o,a,n,()))=aW [] {x' with pc:=bf .i64 x'.pc 1} ():=by
 obtain⟨h1,h2⟩:=ho
 refine dD (aq _) (aq _) ?_
 rw[AZ,df (show ¬ o=0 by omega),df (show ¬ o=12 by omega),df (show ¬ o=13 by omega),df (show ¬ o=14 by omega),df (show ¬ o=15 by omega),df (show ¬ o=16 by omega),df (show ¬ o=17 by omega),h.1,h.2]
 rfl
theorem pu(o w a n:Int)(lo:List Int)(hO:Cp o)(ha:(m11 (o,())).1=1)(hw:U w):
 yQ (aW rz ⟨⟨m,fu,ho,de,0⟩,f2,pc,[w],lo⟩ (o,a,n,()))=true/\xd (aW rz ⟨⟨m,fu,ho,de,0⟩,f2,pc,[w],lo⟩ (o,a,n,()))=aW [] ⟨⟨m,fu,ho,de,(m13 (o,w,())).2.1⟩,f2,pc,[(m13 (o,w,())).1],lo⟩ ():=by
 obtain⟨h1,h2⟩:=hO
 obtain⟨hk,_⟩:=A3 o w hw
 have hn:=nI ⟨⟨m,fu,ho,de,0⟩,f2,pc,[w],lo⟩ 1 1 (by decide) (by decide) (by decide) (by simp) (by simp) (by simp)
 refine dD (aq _) (aq _) ?_
 have e:=AY ⟨⟨m,fu,ho,de,0⟩,f2,pc,[w],lo⟩ o a n
 rw[df (show ¬ o=257 by omega),df (show ¬ o=256 by omega),df (show ¬ o=26 by omega),df (show ¬ o=27 by omega),df (show ¬ o=66 by omega),df (show ¬ o<=36 by omega),df (show ¬ o<=64 by omega),dt (show(32:Int)<=o by omega),dt (show(40:Int)<=o by omega),(o3 o).1,dt ha,hn.1,hn.2,dt (rfl:o=o)]at e
 refine e.trans ?_
 have r:(bif (bif !decide ((m13 (o,w,())).2.1=0)then decide ((0:Int)=0)else false)then some (aN di (aW [] ⟨⟨m,fu,ho,de,(m13 (o,w,())).2.1⟩,f2,pc,[(m13 (o,w,())).1],lo⟩ ()))else some (aN di (aW [] ⟨⟨m,fu,ho,de,0⟩,f2,pc,[(m13 (o,w,())).1],lo⟩ ())))=some (aN di (aW [] ⟨⟨m,fu,ho,de,(m13 (o,w,())).2.1⟩,f2,pc,[(m13 (o,w,())).1],lo⟩ ())):=by
  by_cases hz:(m13 (o,w,())).2.1=0
  ·rw[dt hz,hz];rfl
  ·rw[df hz];rfl
 refine Eq.trans (b:=bI (wV (o,w,())) (bif (bif !decide ((m13 (o,w,())).2.1=0)then decide ((0:Int)=0)else false)then some (aN di (aW [] ⟨⟨m,fu,ho,de,(m13 (o,w,())).2.1⟩,f2,pc,[(m13 (o,w,())).1],lo⟩ ()))else some (aN di (aW [] ⟨⟨m,fu,ho,de,0⟩,f2,pc,[(m13 (o,w,())).1],lo⟩ ())))) ?_ ?_
 ·show _=_
  kernel_rfl
 ·rw[GA hk,r]
theorem pb(o w y a n:Int)(lo:List Int)(hO:Cp o)(ha:(m11 (o,())).1=2)(hw:U w)(hy:U y):
 yQ (aW rz ⟨⟨m,fu,ho,de,0⟩,f2,pc,[w,y],lo⟩ (o,a,n,()))=true/\xd (aW rz ⟨⟨m,fu,ho,de,0⟩,f2,pc,[w,y],lo⟩ (o,a,n,()))=aW [] ⟨⟨m,fu,ho,de,(m12 (o,w,y,())).2.1⟩,f2,pc,[(m12 (o,w,y,())).1],lo⟩ ():=by
 obtain⟨h1,h2⟩:=hO
 obtain⟨hk,_⟩:=uS o w y hw hy
 have hn:=nI ⟨⟨m,fu,ho,de,0⟩,f2,pc,[w,y],lo⟩ 2 1 (by decide) (by decide) (by decide) (by simp) (by simp) (by simp)
 refine dD (aq _) (aq _) ?_
 have e:=AY ⟨⟨m,fu,ho,de,0⟩,f2,pc,[w,y],lo⟩ o a n
 rw[df (show ¬ o=257 by omega),df (show ¬ o=256 by omega),df (show ¬ o=26 by omega),df (show ¬ o=27 by omega),df (show ¬ o=66 by omega),df (show ¬ o<=36 by omega),df (show ¬ o<=64 by omega),dt (show(32:Int)<=o by omega),dt (show(40:Int)<=o by omega),(o3 o).1,df (show ¬ (m11 (o,())).1=1 from fun q=>absurd (ha.symm.trans q) (by decide)),hn.1,hn.2]at e
 refine e.trans ?_
 have r:(bif (bif !decide ((m12 (o,w,y,())).2.1=0)then decide ((0:Int)=0)else false)then some (aN di (aW [] ⟨⟨m,fu,ho,de,(m12 (o,w,y,())).2.1⟩,f2,pc,[(m12 (o,w,y,())).1],lo⟩ ()))else some (aN di (aW [] ⟨⟨m,fu,ho,de,0⟩,f2,pc,[(m12 (o,w,y,())).1],lo⟩ ())))=some (aN di (aW [] ⟨⟨m,fu,ho,de,(m12 (o,w,y,())).2.1⟩,f2,pc,[(m12 (o,w,y,())).1],lo⟩ ())):=by
  by_cases hz:(m12 (o,w,y,())).2.1=0
  ·rw[dt hz,hz];rfl
  ·rw[df hz];rfl
 refine Eq.trans (b:=bI (wU (o,w,y,())) (bif (bif !decide ((m12 (o,w,y,())).2.1=0)then decide ((0:Int)=0)else false)then some (aN di (aW [] ⟨⟨m,fu,ho,de,(m12 (o,w,y,())).2.1⟩,f2,pc,[(m12 (o,w,y,())).1],lo⟩ ()))else some (aN di (aW [] ⟨⟨m,fu,ho,de,0⟩,f2,pc,[(m12 (o,w,y,())).1],lo⟩ ())))) ?_ ?_
 ·show _=_
  kernel_rfl
 ·rw[GA hk,r]
end
end Go.Proofs.Vq
