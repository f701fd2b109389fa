import Derived.Test.YtcnkojgmochcgaaGreatDoorVsL
import Derived.Test.YtcnkojgmochcgaaGreatDoorLfN
noncomputable section
namespace Go.Proofs.Vq
open Go.Ab Go.Ab.Lf
set_option maxRecDepth 100000
theorem XQ(x:lT)(a b:Int):(t232 (aQ [i64,i64] x (a,b,()))).val=
 bif bif decide ((x.4.length:Int)<a)then true else decide (1048576<bV .i64 (aW .i64 ((x.4.length:Int)) a) b)then
  bif decide (x.1.5=0)then
   some (aX ra (false,aQ [] ({x with r:={x.r with err:=40}}) ()))
  else
  some (aX ra (false,aQ [] x ()))
 else
 some (aX ra (true,aQ [] x ())):=by kernel_rfl
theorem Md(x:lT)(o a n:Int):(t307 (aQ [i64,i64,u64] x (o,a,n,()))).val=
 bif decide (o=32)then
  bK (kX (aQ [i64,i64] x (0,1,()))) (
  bif (aG (aQ [i64,i64] x (0,1,()))).1 then
   bK (cg a (Int.ofNat (List.length (bp (aG (aQ [i64,i64] x (0,1,()))).2).lo))) (
   bK (roomy 8 (List.length (bp (aG (aQ [i64,i64] x (0,1,()))).2).st+[List.getD (bp (aG (aQ [i64,i64] x (0,1,()))).2).lo a.toNat (bJ (Ty.int .u64))].length)) (
   some (aX eK (aQ [] ({(bp (aG (aQ [i64,i64] x (0,1,()))).2)with st:=(app (bp (aG (aQ [i64,i64] x (0,1,()))).2).st [List.getD (bp (aG (aQ [i64,i64] x (0,1,()))).2).lo a.toNat (bJ (Ty.int .u64))])}) ()))))
  else
  some (aX eK (aQ [] (bp (aG (aQ [i64,i64] x (0,1,()))).2) ())))
 else
 bif decide (o=33)then
  bK (kX (aQ [i64,i64] x (1,0,()))) (
  bif (aG (aQ [i64,i64] x (1,0,()))).1 then
   bK (cg (aW .i64 (Int.ofNat (List.length (bp (aG (aQ [i64,i64] x (1,0,()))).2).st)) (1)) (Int.ofNat (List.length (bp (aG (aQ [i64,i64] x (1,0,()))).2).st))) (
   bK (cF (0) (aW .i64 (Int.ofNat (List.length (bp (aG (aQ [i64,i64] x (1,0,()))).2).st)) (1)) (Int.ofNat (List.length (bp (aG (aQ [i64,i64] x (1,0,()))).2).st))) (
   bK (decide (a=a)) (
   bK (cg a (Int.ofNat (List.length (bp (aG (aQ [i64,i64] x (1,0,()))).2).lo))) (
   some (aX eK (aQ [] ({(bp (aG (aQ [i64,i64] x (1,0,()))).2)with st:=(List.take ((aW .i64 (Int.ofNat (List.length (bp (aG (aQ [i64,i64] x (1,0,()))).2).st)) (1)).toNat - (0:Int).toNat) (List.drop (0:Int).toNat (bp (aG (aQ [i64,i64] x (1,0,()))).2).st)),lo:=(List.set (bp (aG (aQ [i64,i64] x (1,0,()))).2).lo a.toNat (List.getD (bp (aG (aQ [i64,i64] x (1,0,()))).2).st (aW .i64 (Int.ofNat (List.length (bp (aG (aQ [i64,i64] x (1,0,()))).2).st)) (1)).toNat (bJ (Ty.int .u64))))}) ()))))))
  else
  some (aX eK (aQ [] (bp (aG (aQ [i64,i64] x (1,0,()))).2) ())))
 else
 bif decide (o=34)then
  bK (kX (aQ [i64,i64] x (1,1,()))) (
  bif (aG (aQ [i64,i64] x (1,1,()))).1 then
   bK (cg (aW .i64 (Int.ofNat (List.length (bp (aG (aQ [i64,i64] x (1,1,()))).2).st)) (1)) (Int.ofNat (List.length (bp (aG (aQ [i64,i64] x (1,1,()))).2).st))) (
   bK (cg a (Int.ofNat (List.length (bp (aG (aQ [i64,i64] x (1,1,()))).2).lo))) (
   some (aX eK (aQ [] ({(bp (aG (aQ [i64,i64] x (1,1,()))).2)with lo:=(List.set (bp (aG (aQ [i64,i64] x (1,1,()))).2).lo a.toNat (List.getD (bp (aG (aQ [i64,i64] x (1,1,()))).2).st (aW .i64 (Int.ofNat (List.length (bp (aG (aQ [i64,i64] x (1,1,()))).2).st)) (1)).toNat (bJ (Ty.int .u64))))}) ()))))
  else
  some (aX eK (aQ [] (bp (aG (aQ [i64,i64] x (1,1,()))).2) ())))
 else
 bif decide (o=35)then
  bif bif decide (a<0)then true else decide ((x.1.m.3.1.length:Int)<=a)then
   bif decide (x.1.5=0)then
    some (aX eK (aQ [] ({x with r:={x.r with err:=40}}) ()))
   else
   some (aX eK (aQ [] x ()))
  else
  bK (cg a ((x.1.m.3.1.length:Int))) (
  bK (kX (aQ [i64,i64] x (0,1,()))) (
  bif (aG (aQ [i64,i64] x (0,1,()))).1 then
   bK (roomy 8 (List.length (bp (aG (aQ [i64,i64] x (0,1,()))).2).st+[x.1.m.3.1.getD a.toNat (bJ (Ty.int .u64))].length)) (
   some (aX eK (aQ [] ({(bp (aG (aQ [i64,i64] x (0,1,()))).2)with st:=(app (bp (aG (aQ [i64,i64] x (0,1,()))).2).st [x.1.m.3.1.getD a.toNat (bJ (Ty.int .u64))])}) ())))
  else
  some (aX eK (aQ [] (bp (aG (aQ [i64,i64] x (0,1,()))).2) ()))))
 else
 bif decide (o=36)then
  bif bif decide (a<0)then true else decide ((x.1.m.3.1.length:Int)<=a)then
   bif decide (x.1.5=0)then
    some (aX eK (aQ [] ({x with r:={x.r with err:=40}}) ()))
   else
   some (aX eK (aQ [] x ()))
  else
  bK (cg a ((x.1.m.3.1.length:Int))) (
  bK (kX (aQ [i64,i64] x (1,0,()))) (
  bif (aG (aQ [i64,i64] x (1,0,()))).1 then
   bK (cg (aW .i64 (Int.ofNat (List.length (bp (aG (aQ [i64,i64] x (1,0,()))).2).st)) (1)) (Int.ofNat (List.length (bp (aG (aQ [i64,i64] x (1,0,()))).2).st))) (
   bK (cF (0) (aW .i64 (Int.ofNat (List.length (bp (aG (aQ [i64,i64] x (1,0,()))).2).st)) (1)) (Int.ofNat (List.length (bp (aG (aQ [i64,i64] x (1,0,()))).2).st))) (
   bK (decide (a=a)) (
   bif bif decide (a<0)then true else decide (Int.ofNat (List.length (bp (aG (aQ [i64,i64] x (1,0,()))).2).r.m.s.wQ)<=a)then
    some (aX eK (aQ [] ({(bp (aG (aQ [i64,i64] x (1,0,()))).2)with st:=(List.take ((aW .i64 (Int.ofNat (List.length (bp (aG (aQ [i64,i64] x (1,0,()))).2).st)) (1)).toNat - (0:Int).toNat) (List.drop (0:Int).toNat (bp (aG (aQ [i64,i64] x (1,0,()))).2).st))}) ()))
   else
   bK (cg a (Int.ofNat (List.length (bp (aG (aQ [i64,i64] x (1,0,()))).2).r.m.s.small))) (
   bif decide (List.getD (bp (aG (aQ [i64,i64] x (1,0,()))).2).r.m.s.small a.toNat (bJ (Ty.int .i64))=1)then
    bK (cg a (Int.ofNat (List.length (bp (aG (aQ [i64,i64] x (1,0,()))).2).r.m.s.wQ))) (
    some (aX eK (aQ [] ({(bp (aG (aQ [i64,i64] x (1,0,()))).2)with r:={(bp (aG (aQ [i64,i64] x (1,0,()))).2).r with m:={(bp (aG (aQ [i64,i64] x (1,0,()))).2).r.m with s:={(bp (aG (aQ [i64,i64] x (1,0,()))).2).r.m.s with wQ:=(List.set (bp (aG (aQ [i64,i64] x (1,0,()))).2).r.m.s.wQ a.toNat (NR .u64 (List.getD (bp (aG (aQ [i64,i64] x (1,0,()))).2).st (aW .i64 (Int.ofNat (List.length (bp (aG (aQ [i64,i64] x (1,0,()))).2).st)) (1)).toNat (bJ (Ty.int .u64))) (4294967295)))}}},st:=(List.take ((aW .i64 (Int.ofNat (List.length (bp (aG (aQ [i64,i64] x (1,0,()))).2).st)) (1)).toNat - (0:Int).toNat) (List.drop (0:Int).toNat (bp (aG (aQ [i64,i64] x (1,0,()))).2).st))}) ())))
   else
   bK (cg a (Int.ofNat (List.length (bp (aG (aQ [i64,i64] x (1,0,()))).2).r.m.s.wQ))) (
   some (aX eK (aQ [] ({(bp (aG (aQ [i64,i64] x (1,0,()))).2)with r:={(bp (aG (aQ [i64,i64] x (1,0,()))).2).r with m:={(bp (aG (aQ [i64,i64] x (1,0,()))).2).r.m with s:={(bp (aG (aQ [i64,i64] x (1,0,()))).2).r.m.s with wQ:=(List.set (bp (aG (aQ [i64,i64] x (1,0,()))).2).r.m.s.wQ a.toNat (List.getD (bp (aG (aQ [i64,i64] x (1,0,()))).2).st (aW .i64 (Int.ofNat (List.length (bp (aG (aQ [i64,i64] x (1,0,()))).2).st)) (1)).toNat (bJ (Ty.int .u64))))}}},st:=(List.take ((aW .i64 (Int.ofNat (List.length (bp (aG (aQ [i64,i64] x (1,0,()))).2).st)) (1)).toNat - (0:Int).toNat) (List.drop (0:Int).toNat (bp (aG (aQ [i64,i64] x (1,0,()))).2).st))}) ())))))))
  else
  some (aX eK (aQ [] (bp (aG (aQ [i64,i64] x (1,0,()))).2) ()))))
 else
 some (aX eK (aQ [] x ())):=by kernel_rfl
theorem xm(x:lT)(o a n:Int):(t236 (aQ [i64,i64,u64] x (o,a,n,()))).val=
 bif decide (o=257)then
  bif decide (x.1.2=0)then
   bif decide (x.1.5=0)then
    some (aX dJ (aQ [] ({x with r:={x.r with err:=27}}) ()))
   else
   some (aX dJ (aQ [] x ()))
  else
  some (aX dJ (aQ [] ({x with r:={x.r with fuel:=(aW .i64 x.1.2 (1))}}) ()))
 else
 bif decide (o=256)then
  bK (kX (aQ [i64,i64] x (bV .i64 a (dB .i64 n),a,()))) (
  bif (aG (aQ [i64,i64] x (bV .i64 a (dB .i64 n),a,()))).1 then
   bK (decide (0<=(aW .i64 (aW .i64 (List.length (bp (aG (aQ [i64,i64] x (bV .i64 a (dB .i64 n),a,()))).2).st:Int) a) (dB .i64 n))/\(aW .i64 (aW .i64 (List.length (bp (aG (aQ [i64,i64] x (bV .i64 a (dB .i64 n),a,()))).2).st:Int) a) (dB .i64 n))<=(aW .i64 (List.length (bp (aG (aQ [i64,i64] x (bV .i64 a (dB .i64 n),a,()))).2).st:Int) a)/\(aW .i64 (List.length (bp (aG (aQ [i64,i64] x (bV .i64 a (dB .i64 n),a,()))).2).st:Int) a)<=(List.length (bp (aG (aQ [i64,i64] x (bV .i64 a (dB .i64 n),a,()))).2).st:Int)/\List.length (bp (aG (aQ [i64,i64] x (bV .i64 a (dB .i64 n),a,()))).2).st<=1099511627776)) (
   some (aX dJ (aQ [] ({(bp (aG (aQ [i64,i64] x (bV .i64 a (dB .i64 n),a,()))).2)with st:=app (List.take (aW .i64 (aW .i64 (List.length (bp (aG (aQ [i64,i64] x (bV .i64 a (dB .i64 n),a,()))).2).st:Int) a) (dB .i64 n)).toNat (bp (aG (aQ [i64,i64] x (bV .i64 a (dB .i64 n),a,()))).2).st) (List.drop (aW .i64 (List.length (bp (aG (aQ [i64,i64] x (bV .i64 a (dB .i64 n),a,()))).2).st:Int) a).toNat (bp (aG (aQ [i64,i64] x (bV .i64 a (dB .i64 n),a,()))).2).st)}) ())))
  else
  some (aX dJ (aQ [] (bp (aG (aQ [i64,i64] x (bV .i64 a (dB .i64 n),a,()))).2) ())))
 else
 bif decide (o=26)then
  bK (kX (aQ [i64,i64] x (1,0,()))) (
  bif (aG (aQ [i64,i64] x (1,0,()))).1 then
   bK (cg (aW .i64 (Int.ofNat (List.length (bp (aG (aQ [i64,i64] x (1,0,()))).2).st)) (1)) (Int.ofNat (List.length (bp (aG (aQ [i64,i64] x (1,0,()))).2).st))) (
   bK (cF (0) (aW .i64 (Int.ofNat (List.length (bp (aG (aQ [i64,i64] x (1,0,()))).2).st)) (1)) (Int.ofNat (List.length (bp (aG (aQ [i64,i64] x (1,0,()))).2).st))) (
   some (aX dJ (aQ [] ({(bp (aG (aQ [i64,i64] x (1,0,()))).2)with st:=(List.take ((aW .i64 (Int.ofNat (List.length (bp (aG (aQ [i64,i64] x (1,0,()))).2).st)) (1)).toNat - (0:Int).toNat) (List.drop (0:Int).toNat (bp (aG (aQ [i64,i64] x (1,0,()))).2).st))}) ()))))
  else
  some (aX dJ (aQ [] (bp (aG (aQ [i64,i64] x (1,0,()))).2) ())))
 else
 bif decide (o=27)then
  bK (kX (aQ [i64,i64] x (3,1,()))) (
  bif (aG (aQ [i64,i64] x (3,1,()))).1 then
   bK (cg (aW .i64 (Int.ofNat (List.length (bp (aG (aQ [i64,i64] x (3,1,()))).2).st)) (1)) (Int.ofNat (List.length (bp (aG (aQ [i64,i64] x (3,1,()))).2).st))) (
   bK (cF (0) (aW .i64 (Int.ofNat (List.length (bp (aG (aQ [i64,i64] x (3,1,()))).2).st)) (1)) (Int.ofNat (List.length (bp (aG (aQ [i64,i64] x (3,1,()))).2).st))) (
   bK (cg (aW .i64 (Int.ofNat ((aW .i64 (Int.ofNat (List.length (bp (aG (aQ [i64,i64] x (3,1,()))).2).st)) (1)).toNat - (0:Int).toNat)) (1)) (Int.ofNat ((aW .i64 (Int.ofNat (List.length (bp (aG (aQ [i64,i64] x (3,1,()))).2).st)) (1)).toNat - (0:Int).toNat))) (
   bK (cF (0) (aW .i64 (Int.ofNat ((aW .i64 (Int.ofNat (List.length (bp (aG (aQ [i64,i64] x (3,1,()))).2).st)) (1)).toNat - (0:Int).toNat)) (1)) (Int.ofNat ((aW .i64 (Int.ofNat (List.length (bp (aG (aQ [i64,i64] x (3,1,()))).2).st)) (1)).toNat - (0:Int).toNat))) (
   bK (cg (aW .i64 (Int.ofNat ((aW .i64 (Int.ofNat ((aW .i64 (Int.ofNat (List.length (bp (aG (aQ [i64,i64] x (3,1,()))).2).st)) (1)).toNat - (0:Int).toNat)) (1)).toNat - (0:Int).toNat)) (1)) (Int.ofNat ((aW .i64 (Int.ofNat ((aW .i64 (Int.ofNat (List.length (bp (aG (aQ [i64,i64] x (3,1,()))).2).st)) (1)).toNat - (0:Int).toNat)) (1)).toNat - (0:Int).toNat))) (
   bK (cF (0) (aW .i64 (Int.ofNat ((aW .i64 (Int.ofNat ((aW .i64 (Int.ofNat (List.length (bp (aG (aQ [i64,i64] x (3,1,()))).2).st)) (1)).toNat - (0:Int).toNat)) (1)).toNat - (0:Int).toNat)) (1)) (Int.ofNat ((aW .i64 (Int.ofNat ((aW .i64 (Int.ofNat (List.length (bp (aG (aQ [i64,i64] x (3,1,()))).2).st)) (1)).toNat - (0:Int).toNat)) (1)).toNat - (0:Int).toNat))) (
   bif decide (dB .u32 (List.getD (bp (aG (aQ [i64,i64] x (3,1,()))).2).st (aW .i64 (Int.ofNat (List.length (bp (aG (aQ [i64,i64] x (3,1,()))).2).st)) (1)).toNat (bJ (Ty.int .u64)))=0)then
    bK (roomy 8 ((List.take ((aW .i64 (Int.ofNat ((aW .i64 (Int.ofNat ((aW .i64 (Int.ofNat (List.length (bp (aG (aQ [i64,i64] x (3,1,()))).2).st)) (1)).toNat - (0:Int).toNat)) (1)).toNat - (0:Int).toNat)) (1)).toNat - (0:Int).toNat) (List.drop ((0:Int).toNat+(0:Int).toNat+(0:Int).toNat) (bp (aG (aQ [i64,i64] x (3,1,()))).2).st)).length+[List.getD (bp (aG (aQ [i64,i64] x (3,1,()))).2).st ((0:Int).toNat+(aW .i64 (Int.ofNat ((aW .i64 (Int.ofNat (List.length (bp (aG (aQ [i64,i64] x (3,1,()))).2).st)) (1)).toNat - (0:Int).toNat)) (1)).toNat) (bJ (Ty.int .u64))].length)) (
    some (aX dJ (aQ [] ({(bp (aG (aQ [i64,i64] x (3,1,()))).2)with st:=(app (List.take ((aW .i64 (Int.ofNat ((aW .i64 (Int.ofNat ((aW .i64 (Int.ofNat (List.length (bp (aG (aQ [i64,i64] x (3,1,()))).2).st)) (1)).toNat - (0:Int).toNat)) (1)).toNat - (0:Int).toNat)) (1)).toNat - (0:Int).toNat) (List.drop ((0:Int).toNat+(0:Int).toNat+(0:Int).toNat) (bp (aG (aQ [i64,i64] x (3,1,()))).2).st)) [List.getD (bp (aG (aQ [i64,i64] x (3,1,()))).2).st ((0:Int).toNat+(aW .i64 (Int.ofNat ((aW .i64 (Int.ofNat (List.length (bp (aG (aQ [i64,i64] x (3,1,()))).2).st)) (1)).toNat - (0:Int).toNat)) (1)).toNat) (bJ (Ty.int .u64))])}) ())))
   else
   bK (roomy 8 ((List.take ((aW .i64 (Int.ofNat ((aW .i64 (Int.ofNat ((aW .i64 (Int.ofNat (List.length (bp (aG (aQ [i64,i64] x (3,1,()))).2).st)) (1)).toNat - (0:Int).toNat)) (1)).toNat - (0:Int).toNat)) (1)).toNat - (0:Int).toNat) (List.drop ((0:Int).toNat+(0:Int).toNat+(0:Int).toNat) (bp (aG (aQ [i64,i64] x (3,1,()))).2).st)).length+[List.getD (bp (aG (aQ [i64,i64] x (3,1,()))).2).st ((0:Int).toNat+(0:Int).toNat+(aW .i64 (Int.ofNat ((aW .i64 (Int.ofNat ((aW .i64 (Int.ofNat (List.length (bp (aG (aQ [i64,i64] x (3,1,()))).2).st)) (1)).toNat - (0:Int).toNat)) (1)).toNat - (0:Int).toNat)) (1)).toNat) (bJ (Ty.int .u64))].length)) (
   some (aX dJ (aQ [] ({(bp (aG (aQ [i64,i64] x (3,1,()))).2)with st:=(app (List.take ((aW .i64 (Int.ofNat ((aW .i64 (Int.ofNat ((aW .i64 (Int.ofNat (List.length (bp (aG (aQ [i64,i64] x (3,1,()))).2).st)) (1)).toNat - (0:Int).toNat)) (1)).toNat - (0:Int).toNat)) (1)).toNat - (0:Int).toNat) (List.drop ((0:Int).toNat+(0:Int).toNat+(0:Int).toNat) (bp (aG (aQ [i64,i64] x (3,1,()))).2).st)) [List.getD (bp (aG (aQ [i64,i64] x (3,1,()))).2).st ((0:Int).toNat+(0:Int).toNat+(aW .i64 (Int.ofNat ((aW .i64 (Int.ofNat ((aW .i64 (Int.ofNat (List.length (bp (aG (aQ [i64,i64] x (3,1,()))).2).st)) (1)).toNat - (0:Int).toNat)) (1)).toNat - (0:Int).toNat)) (1)).toNat) (bJ (Ty.int .u64))])}) ())))))))))
  else
  some (aX dJ (aQ [] (bp (aG (aQ [i64,i64] x (3,1,()))).2) ())))
 else
 bif decide (o=66)then
  bK (kX (aQ [i64,i64] x (0,1,()))) (
  bif (aG (aQ [i64,i64] x (0,1,()))).1 then
   bK (roomy 8 (List.length (bp (aG (aQ [i64,i64] x (0,1,()))).2).st+[n].length)) (
   some (aX dJ (aQ [] ({(bp (aG (aQ [i64,i64] x (0,1,()))).2)with st:=(app (bp (aG (aQ [i64,i64] x (0,1,()))).2).st [n])}) ())))
  else
  some (aX dJ (aQ [] (bp (aG (aQ [i64,i64] x (0,1,()))).2) ())))
 else
 bif bif decide (32<=o)then decide (o<=36)else false then
  bK (Ko (aQ [i64,i64,u64] x (o,a,n,()))) (
  some (aX dJ (aQ [] (bp (Kp (aQ [i64,i64,u64] x (o,a,n,())))) ())))
 else
 bif bif decide (40<=o)then decide (o<=64)else false then
  bK (Xe (aQ [i64,i64,u64] x (o,a,n,()))) (
  some (aX dJ (aQ [] (bp (Xf (aQ [i64,i64,u64] x (o,a,n,())))) ())))
 else
 bK (LY (o,())) (
 bif decide ((m11 (o,())).1=1)then
  bK (kX (aQ [i64,i64] x (1,1,()))) (
  bif (aG (aQ [i64,i64] x (1,1,()))).1 then
   bK (cg (aW .i64 (Int.ofNat (List.length (bp (aG (aQ [i64,i64] x (1,1,()))).2).st)) (1)) (Int.ofNat (List.length (bp (aG (aQ [i64,i64] x (1,1,()))).2).st))) (
   bK (cF (0) (aW .i64 (Int.ofNat (List.length (bp (aG (aQ [i64,i64] x (1,1,()))).2).st)) (1)) (Int.ofNat (List.length (bp (aG (aQ [i64,i64] x (1,1,()))).2).st))) (
   bK (decide (o=o)) (
   bK (YP (o,List.getD (bp (aG (aQ [i64,i64] x (1,1,()))).2).st (aW .i64 (Int.ofNat (List.length (bp (aG (aQ [i64,i64] x (1,1,()))).2).st)) (1)).toNat (bJ (Ty.int .u64)),())) (
   bif bif !decide ((m13 (o,List.getD (bp (aG (aQ [i64,i64] x (1,1,()))).2).st (aW .i64 (Int.ofNat (List.length (bp (aG (aQ [i64,i64] x (1,1,()))).2).st)) (1)).toNat (bJ (Ty.int .u64)),())).2.1=0)then decide ((bp (aG (aQ [i64,i64] x (1,1,()))).2).r.err=0)else false then
    bK (roomy 8 ((List.take ((aW .i64 (Int.ofNat (List.length (bp (aG (aQ [i64,i64] x (1,1,()))).2).st)) (1)).toNat - (0:Int).toNat) (List.drop (0:Int).toNat (bp (aG (aQ [i64,i64] x (1,1,()))).2).st)).length+[(m13 (o,List.getD (bp (aG (aQ [i64,i64] x (1,1,()))).2).st (aW .i64 (Int.ofNat (List.length (bp (aG (aQ [i64,i64] x (1,1,()))).2).st)) (1)).toNat (bJ (Ty.int .u64)),())).1].length)) (
    some (aX dJ (aQ [] ({(bp (aG (aQ [i64,i64] x (1,1,()))).2)with r:={(bp (aG (aQ [i64,i64] x (1,1,()))).2).r with err:=(m13 (o,List.getD (bp (aG (aQ [i64,i64] x (1,1,()))).2).st (aW .i64 (Int.ofNat (List.length (bp (aG (aQ [i64,i64] x (1,1,()))).2).st)) (1)).toNat (bJ (Ty.int .u64)),())).2.1},st:=(app (List.take ((aW .i64 (Int.ofNat (List.length (bp (aG (aQ [i64,i64] x (1,1,()))).2).st)) (1)).toNat - (0:Int).toNat) (List.drop (0:Int).toNat (bp (aG (aQ [i64,i64] x (1,1,()))).2).st)) [(m13 (o,List.getD (bp (aG (aQ [i64,i64] x (1,1,()))).2).st (aW .i64 (Int.ofNat (List.length (bp (aG (aQ [i64,i64] x (1,1,()))).2).st)) (1)).toNat (bJ (Ty.int .u64)),())).1])}) ())))
   else
   bK (roomy 8 ((List.take ((aW .i64 (Int.ofNat (List.length (bp (aG (aQ [i64,i64] x (1,1,()))).2).st)) (1)).toNat - (0:Int).toNat) (List.drop (0:Int).toNat (bp (aG (aQ [i64,i64] x (1,1,()))).2).st)).length+[(m13 (o,List.getD (bp (aG (aQ [i64,i64] x (1,1,()))).2).st (aW .i64 (Int.ofNat (List.length (bp (aG (aQ [i64,i64] x (1,1,()))).2).st)) (1)).toNat (bJ (Ty.int .u64)),())).1].length)) (
   some (aX dJ (aQ [] ({(bp (aG (aQ [i64,i64] x (1,1,()))).2)with st:=(app (List.take ((aW .i64 (Int.ofNat (List.length (bp (aG (aQ [i64,i64] x (1,1,()))).2).st)) (1)).toNat - (0:Int).toNat) (List.drop (0:Int).toNat (bp (aG (aQ [i64,i64] x (1,1,()))).2).st)) [(m13 (o,List.getD (bp (aG (aQ [i64,i64] x (1,1,()))).2).st (aW .i64 (Int.ofNat (List.length (bp (aG (aQ [i64,i64] x (1,1,()))).2).st)) (1)).toNat (bJ (Ty.int .u64)),())).1])}) ())))))))
  else
  some (aX dJ (aQ [] (bp (aG (aQ [i64,i64] x (1,1,()))).2) ())))
 else
 bK (kX (aQ [i64,i64] x (2,1,()))) (
 bif (aG (aQ [i64,i64] x (2,1,()))).1 then
  bK (cg (aW .i64 (Int.ofNat (List.length (bp (aG (aQ [i64,i64] x (2,1,()))).2).st)) (1)) (Int.ofNat (List.length (bp (aG (aQ [i64,i64] x (2,1,()))).2).st))) (
  bK (cF (0) (aW .i64 (Int.ofNat (List.length (bp (aG (aQ [i64,i64] x (2,1,()))).2).st)) (1)) (Int.ofNat (List.length (bp (aG (aQ [i64,i64] x (2,1,()))).2).st))) (
  bK (cg (aW .i64 (Int.ofNat ((aW .i64 (Int.ofNat (List.length (bp (aG (aQ [i64,i64] x (2,1,()))).2).st)) (1)).toNat - (0:Int).toNat)) (1)) (Int.ofNat ((aW .i64 (Int.ofNat (List.length (bp (aG (aQ [i64,i64] x (2,1,()))).2).st)) (1)).toNat - (0:Int).toNat))) (
  bK (cF (0) (aW .i64 (Int.ofNat ((aW .i64 (Int.ofNat (List.length (bp (aG (aQ [i64,i64] x (2,1,()))).2).st)) (1)).toNat - (0:Int).toNat)) (1)) (Int.ofNat ((aW .i64 (Int.ofNat (List.length (bp (aG (aQ [i64,i64] x (2,1,()))).2).st)) (1)).toNat - (0:Int).toNat))) (
  bK (YO (o,List.getD (bp (aG (aQ [i64,i64] x (2,1,()))).2).st ((0:Int).toNat+(aW .i64 (Int.ofNat ((aW .i64 (Int.ofNat (List.length (bp (aG (aQ [i64,i64] x (2,1,()))).2).st)) (1)).toNat - (0:Int).toNat)) (1)).toNat) (bJ (Ty.int .u64)),List.getD (bp (aG (aQ [i64,i64] x (2,1,()))).2).st (aW .i64 (Int.ofNat (List.length (bp (aG (aQ [i64,i64] x (2,1,()))).2).st)) (1)).toNat (bJ (Ty.int .u64)),())) (
  bif bif !decide ((m12 (o,List.getD (bp (aG (aQ [i64,i64] x (2,1,()))).2).st ((0:Int).toNat+(aW .i64 (Int.ofNat ((aW .i64 (Int.ofNat (List.length (bp (aG (aQ [i64,i64] x (2,1,()))).2).st)) (1)).toNat - (0:Int).toNat)) (1)).toNat) (bJ (Ty.int .u64)),List.getD (bp (aG (aQ [i64,i64] x (2,1,()))).2).st (aW .i64 (Int.ofNat (List.length (bp (aG (aQ [i64,i64] x (2,1,()))).2).st)) (1)).toNat (bJ (Ty.int .u64)),())).2.1=0)then decide ((bp (aG (aQ [i64,i64] x (2,1,()))).2).r.err=0)else false then
   bK (roomy 8 ((List.take ((aW .i64 (Int.ofNat ((aW .i64 (Int.ofNat (List.length (bp (aG (aQ [i64,i64] x (2,1,()))).2).st)) (1)).toNat - (0:Int).toNat)) (1)).toNat - (0:Int).toNat) (List.drop ((0:Int).toNat+(0:Int).toNat) (bp (aG (aQ [i64,i64] x (2,1,()))).2).st)).length+[(m12 (o,List.getD (bp (aG (aQ [i64,i64] x (2,1,()))).2).st ((0:Int).toNat+(aW .i64 (Int.ofNat ((aW .i64 (Int.ofNat (List.length (bp (aG (aQ [i64,i64] x (2,1,()))).2).st)) (1)).toNat - (0:Int).toNat)) (1)).toNat) (bJ (Ty.int .u64)),List.getD (bp (aG (aQ [i64,i64] x (2,1,()))).2).st (aW .i64 (Int.ofNat (List.length (bp (aG (aQ [i64,i64] x (2,1,()))).2).st)) (1)).toNat (bJ (Ty.int .u64)),())).1].length)) (
   some (aX dJ (aQ [] ({(bp (aG (aQ [i64,i64] x (2,1,()))).2)with r:={(bp (aG (aQ [i64,i64] x (2,1,()))).2).r with err:=(m12 (o,List.getD (bp (aG (aQ [i64,i64] x (2,1,()))).2).st ((0:Int).toNat+(aW .i64 (Int.ofNat ((aW .i64 (Int.ofNat (List.length (bp (aG (aQ [i64,i64] x (2,1,()))).2).st)) (1)).toNat - (0:Int).toNat)) (1)).toNat) (bJ (Ty.int .u64)),List.getD (bp (aG (aQ [i64,i64] x (2,1,()))).2).st (aW .i64 (Int.ofNat (List.length (bp (aG (aQ [i64,i64] x (2,1,()))).2).st)) (1)).toNat (bJ (Ty.int .u64)),())).2.1},st:=(app (List.take ((aW .i64 (Int.ofNat ((aW .i64 (Int.ofNat (List.length (bp (aG (aQ [i64,i64] x (2,1,()))).2).st)) (1)).toNat - (0:Int).toNat)) (1)).toNat - (0:Int).toNat) (List.drop ((0:Int).toNat+(0:Int).toNat) (bp (aG (aQ [i64,i64] x (2,1,()))).2).st)) [(m12 (o,List.getD (bp (aG (aQ [i64,i64] x (2,1,()))).2).st ((0:Int).toNat+(aW .i64 (Int.ofNat ((aW .i64 (Int.ofNat (List.length (bp (aG (aQ [i64,i64] x (2,1,()))).2).st)) (1)).toNat - (0:Int).toNat)) (1)).toNat) (bJ (Ty.int .u64)),List.getD (bp (aG (aQ [i64,i64] x (2,1,()))).2).st (aW .i64 (Int.ofNat (List.length (bp (aG (aQ [i64,i64] x (2,1,()))).2).st)) (1)).toNat (bJ (Ty.int .u64)),())).1])}) ())))
  else
  bK (roomy 8 ((List.take ((aW .i64 (Int.ofNat ((aW .i64 (Int.ofNat (List.length (bp (aG (aQ [i64,i64] x (2,1,()))).2).st)) (1)).toNat - (0:Int).toNat)) (1)).toNat - (0:Int).toNat) (List.drop ((0:Int).toNat+(0:Int).toNat) (bp (aG (aQ [i64,i64] x (2,1,()))).2).st)).length+[(m12 (o,List.getD (bp (aG (aQ [i64,i64] x (2,1,()))).2).st ((0:Int).toNat+(aW .i64 (Int.ofNat ((aW .i64 (Int.ofNat (List.length (bp (aG (aQ [i64,i64] x (2,1,()))).2).st)) (1)).toNat - (0:Int).toNat)) (1)).toNat) (bJ (Ty.int .u64)),List.getD (bp (aG (aQ [i64,i64] x (2,1,()))).2).st (aW .i64 (Int.ofNat (List.length (bp (aG (aQ [i64,i64] x (2,1,()))).2).st)) (1)).toNat (bJ (Ty.int .u64)),())).1].length)) (
  some (aX dJ (aQ [] ({(bp (aG (aQ [i64,i64] x (2,1,()))).2)with st:=(app (List.take ((aW .i64 (Int.ofNat ((aW .i64 (Int.ofNat (List.length (bp (aG (aQ [i64,i64] x (2,1,()))).2).st)) (1)).toNat - (0:Int).toNat)) (1)).toNat - (0:Int).toNat) (List.drop ((0:Int).toNat+(0:Int).toNat) (bp (aG (aQ [i64,i64] x (2,1,()))).2).st)) [(m12 (o,List.getD (bp (aG (aQ [i64,i64] x (2,1,()))).2).st ((0:Int).toNat+(aW .i64 (Int.ofNat ((aW .i64 (Int.ofNat (List.length (bp (aG (aQ [i64,i64] x (2,1,()))).2).st)) (1)).toNat - (0:Int).toNat)) (1)).toNat) (bJ (Ty.int .u64)),List.getD (bp (aG (aQ [i64,i64] x (2,1,()))).2).st (aW .i64 (Int.ofNat (List.length (bp (aG (aQ [i64,i64] x (2,1,()))).2).st)) (1)).toNat (bJ (Ty.int .u64)),())).1])}) ()))))))))
 else
 some (aX dJ (aQ [] (bp (aG (aQ [i64,i64] x (2,1,()))).2) ())))):=by kernel_rfl
theorem sP(g:Cg)(x:lT)(o a n:Int):(t134 g (aQ [i64,i64,u64] x (o,a,n,()))).val=
 bif decide (o=0)then
  bif decide (x.1.5=0)then
   some (aX fV (aQ [] ({x with r:={x.r with err:=20}}) ()))
  else
  some (aX fV (aQ [] x ()))
 else
 bif decide (o=12)then
  bK (PL (aQ [i64] x (a,()))) (
  some (aX fV (aQ [] (bp (PM (aQ [i64] x (a,())))) ())))
 else
 bif decide (o=13)then
  bK (kX (aQ [i64,i64] x (1,0,()))) (
  bif (aG (aQ [i64,i64] x (1,0,()))).1 then
   bK (cg (aW .i64 (Int.ofNat (List.length (bp (aG (aQ [i64,i64] x (1,0,()))).2).st)) (1)) (Int.ofNat (List.length (bp (aG (aQ [i64,i64] x (1,0,()))).2).st))) (
   bK (cF (0) (aW .i64 (Int.ofNat (List.length (bp (aG (aQ [i64,i64] x (1,0,()))).2).st)) (1)) (Int.ofNat (List.length (bp (aG (aQ [i64,i64] x (1,0,()))).2).st))) (
   bif !decide (dB .u32 (List.getD (bp (aG (aQ [i64,i64] x (1,0,()))).2).st (aW .i64 (Int.ofNat (List.length (bp (aG (aQ [i64,i64] x (1,0,()))).2).st)) (1)).toNat (bJ (Ty.int .u64)))=0)then
    bK (PL (aQ [i64] ({(bp (aG (aQ [i64,i64] x (1,0,()))).2)with st:=(List.take ((aW .i64 (Int.ofNat (List.length (bp (aG (aQ [i64,i64] x (1,0,()))).2).st)) (1)).toNat - (0:Int).toNat) (List.drop (0:Int).toNat (bp (aG (aQ [i64,i64] x (1,0,()))).2).st))}) (a,()))) (
    some (aX fV (aQ [] (bp (PM (aQ [i64] ({(bp (aG (aQ [i64,i64] x (1,0,()))).2)with st:=(List.take ((aW .i64 (Int.ofNat (List.length (bp (aG (aQ [i64,i64] x (1,0,()))).2).st)) (1)).toNat - (0:Int).toNat) (List.drop (0:Int).toNat (bp (aG (aQ [i64,i64] x (1,0,()))).2).st))}) (a,())))) ())))
   else
   some (aX fV (aQ [] ({(bp (aG (aQ [i64,i64] x (1,0,()))).2)with pc:=(bV .i64 (bp (aG (aQ [i64,i64] x (1,0,()))).2).pc (1)),st:=(List.take ((aW .i64 (Int.ofNat (List.length (bp (aG (aQ [i64,i64] x (1,0,()))).2).st)) (1)).toNat - (0:Int).toNat) (List.drop (0:Int).toNat (bp (aG (aQ [i64,i64] x (1,0,()))).2).st))}) ()))))
  else
  some (aX fV (aQ [] (bp (aG (aQ [i64,i64] x (1,0,()))).2) ())))
 else
 bif decide (o=14)then
  bK (kX (aQ [i64,i64] x (1,0,()))) (
  bif (aG (aQ [i64,i64] x (1,0,()))).1 then
   bK (cg (aW .i64 (Int.ofNat (List.length (bp (aG (aQ [i64,i64] x (1,0,()))).2).st)) (1)) (Int.ofNat (List.length (bp (aG (aQ [i64,i64] x (1,0,()))).2).st))) (
   bK (cF (0) (aW .i64 (Int.ofNat (List.length (bp (aG (aQ [i64,i64] x (1,0,()))).2).st)) (1)) (Int.ofNat (List.length (bp (aG (aQ [i64,i64] x (1,0,()))).2).st))) (
   bK (decide ((bp (aG (aQ [i64,i64] x (1,0,()))).2).pc=(bp (aG (aQ [i64,i64] x (1,0,()))).2).pc)) (
   bK (decide (a=a)) (
   some (aX fV (aQ [] ({(bp (aG (aQ [i64,i64] x (1,0,()))).2)with pc:=(bV .i64 (bp (aG (aQ [i64,i64] x (1,0,()))).2).pc (bV .i64 (1) (dB .i64 (min (dB .u64 (dB .u32 (List.getD (bp (aG (aQ [i64,i64] x (1,0,()))).2).st (aW .i64 (Int.ofNat (List.length (bp (aG (aQ [i64,i64] x (1,0,()))).2).st)) (1)).toNat (bJ (Ty.int .u64))))) (dB .u64 a))))),st:=(List.take ((aW .i64 (Int.ofNat (List.length (bp (aG (aQ [i64,i64] x (1,0,()))).2).st)) (1)).toNat - (0:Int).toNat) (List.drop (0:Int).toNat (bp (aG (aQ [i64,i64] x (1,0,()))).2).st))}) ()))))))
  else
  some (aX fV (aQ [] (bp (aG (aQ [i64,i64] x (1,0,()))).2) ())))
 else
 bif decide (o=15)then
  bK (kX (aQ [i64,i64] x (x.2.2.2.2.1,0,()))) (
  bif (aG (aQ [i64,i64] x (x.2.2.2.2.1,0,()))).1 then
   bK (cF (aW .i64 (Int.ofNat (List.length (bp (aG (aQ [i64,i64] x (x.2.2.2.2.1,0,()))).2).st)) (bp (aG (aQ [i64,i64] x (x.2.2.2.2.1,0,()))).2).f.2.2.2.1) (Int.ofNat (List.length (bp (aG (aQ [i64,i64] x (x.2.2.2.2.1,0,()))).2).st)) (Int.ofNat (List.length (bp (aG (aQ [i64,i64] x (x.2.2.2.2.1,0,()))).2).st))) (
   some (aX fV (aQ [] ({(bp (aG (aQ [i64,i64] x (x.2.2.2.2.1,0,()))).2)with pc:=(-1),st:=(List.take ((Int.ofNat (List.length (bp (aG (aQ [i64,i64] x (x.2.2.2.2.1,0,()))).2).st)).toNat - (aW .i64 (Int.ofNat (List.length (bp (aG (aQ [i64,i64] x (x.2.2.2.2.1,0,()))).2).st)) (bp (aG (aQ [i64,i64] x (x.2.2.2.2.1,0,()))).2).f.2.2.2.1).toNat) (List.drop (aW .i64 (Int.ofNat (List.length (bp (aG (aQ [i64,i64] x (x.2.2.2.2.1,0,()))).2).st)) (bp (aG (aQ [i64,i64] x (x.2.2.2.2.1,0,()))).2).f.2.2.2.1).toNat (bp (aG (aQ [i64,i64] x (x.2.2.2.2.1,0,()))).2).st))}) ())))
  else
  some (aX fV (aQ [] (bp (aG (aQ [i64,i64] x (x.2.2.2.2.1,0,()))).2) ())))
 else
 bif decide (o=16)then
  bK (Xm g (aQ [i64] x (a,()))) (
  some (aX fV (aQ [] (bp (Xn g (aQ [i64] x (a,())))) ())))
 else
 bif decide (o=17)then
  bK (Xp g (aQ [i64] x (a,()))) (
  some (aX fV (aQ [] (bp (Xr g (aQ [i64] x (a,())))) ())))
 else
 bK (yN (aQ [i64,i64,u64] x (o,a,n,()))) (
 some (aX fV (aQ [] ({(bp (w5 (aQ [i64,i64,u64] x (o,a,n,()))))with pc:=(bV .i64 (bp (w5 (aQ [i64,i64,u64] x (o,a,n,())))).pc (1))}) ()))):=by kernel_rfl
end Go.Proofs.Vq

noncomputable section
namespace Go.Proofs.Vq
open Go.Ab Go.Ab.Lf
set_option maxRecDepth 100000
theorem Me(l:List Int)(n i:Int):(rN (aX l5 (l,n,i,()))).val=
 bif decide (i<n)then
  bK (cg i ((l.length:Int))) (
  bif bif !decide (l.getD i.toNat (bJ (Ty.int .i64))=127)then !decide (l.getD i.toNat (bJ (Ty.int .i64))=126)else false then
   some (.out 1 (aX lJ (false,())))
  else
  some (.next (aX l5 (l,n,bV .i64 i (1),()))))
 else
 some (.out 0 (aX lI (()))):=by kernel_rfl
theorem abG(l:List Int):(t83 (l,())).val=
 bK (xA rN [(Ty.int .i64).aB,Ty.int .i64,Ty.int .i64] [] [Ty.bool] (l,(l.length:Int),0,())) (
 bif uT rN [(Ty.int .i64).aB,Ty.int .i64,Ty.int .i64] (l,(l.length:Int),0,())then
  some (aX wM (true,()))
 else
 some (aX wM ((iE rN [(Ty.int .i64).aB,Ty.int .i64,Ty.int .i64] [Ty.bool] (l,(l.length:Int),0,())).1,()))):=by kernel_rfl
theorem Gs(o:Int):(t245 (o,())).val=
 bif decide (o=0)then
  some (aX dQ (true,()))
 else
 bif decide (o=12)then
  some (aX dQ (true,()))
 else
 bif decide (o=257)then
  some (aX dQ (true,()))
 else
 bif decide (o=13)then
  some (aX dQ (true,()))
 else
 bif decide (o=14)then
  some (aX dQ (true,()))
 else
 bif decide (o=26)then
  some (aX dQ (true,()))
 else
 bif decide (o=33)then
  some (aX dQ (true,()))
 else
 bif decide (o=36)then
  some (aX dQ (true,()))
 else
 bif decide (o=27)then
  some (aX dQ (true,()))
 else
 bif decide (o=32)then
  some (aX dQ (true,()))
 else
 bif decide (o=35)then
  some (aX dQ (true,()))
 else
 bif decide (o=63)then
  some (aX dQ (true,()))
 else
 bif decide (o=66)then
  some (aX dQ (true,()))
 else
 bif decide (o=34)then
  some (aX dQ (true,()))
 else
 bif decide (o=64)then
  some (aX dQ (true,()))
 else
 bif decide (o=40)then
  some (aX dQ (true,()))
 else
 bif decide (o=41)then
  some (aX dQ (true,()))
 else
 bif bif decide (44<=o)then decide (o<=53)else false then
  some (aX dQ (true,()))
 else
 bif decide (o=54)then
  some (aX dQ (true,()))
 else
 bif decide (o=55)then
  some (aX dQ (true,()))
 else
 bif bif decide (58<=o)then decide (o<=62)else false then
  some (aX dQ (true,()))
 else
 bK (LY (o,())) (
 bif decide (0<(m11 (o,())).1)then
  bK (LY (o,())) (
  some (aX dQ (true,())))
 else
 some (aX dQ (bif decide (o=15)then true else bif decide (o=16)then true else bif decide (o=17)then true else decide (o=256),()))):=by kernel_rfl
theorem xn(ss:List (den cr))(fs:List (den eJ))(p0 p1 p2 p3 p4:Int)(cs:List (den bZ))(ms:List Int)(t o a n:Int):(t141 (ss,fs,p0,p1,p2,p3,p4,cs,ms,t,o,a,n,())).val=
 bif decide (o=12)then
  some (aX gK (bif decide (0<=a)then decide (a<(cs.length:Int))else false,()))
 else
 bif decide (o=13)then
  some (aX gK (bif decide (0<=a)then decide (a<(cs.length:Int))else false,()))
 else
 bif decide (o=14)then
  some (aX gK (bif decide (0<=a)then decide (a<aW .i64 (aW .i64 ((cs.length:Int)) t) (1))else false,()))
 else
 bif decide (o=16)then
  some (aX gK (bif decide (0<=a)then decide (a<(fs.length:Int))else false,()))
 else
 bif decide (o=17)then
  some (aX gK (bif decide (0<=a)then decide (a<(ss.length:Int))else false,()))
 else
 bif decide (o=32)then
  some (aX gK (bif decide (0<=a)then decide (a<bV .i64 p2 p4)else false,()))
 else
 bif decide (o=33)then
  some (aX gK (bif decide (0<=a)then decide (a<bV .i64 p2 p4)else false,()))
 else
 bif decide (o=34)then
  some (aX gK (bif decide (0<=a)then decide (a<bV .i64 p2 p4)else false,()))
 else
 bif decide (o=35)then
  some (aX gK (decide (0<=a),()))
 else
 bif decide (o=36)then
  some (aX gK (decide (0<=a),()))
 else
 bif decide (o=256)then
  some (aX gK (bif decide (0<=a)then bif decide (a<=1048576)then decide (n<=1048576)else false else false,()))
 else
 bK (FD (o,())) (
 some (aX gK ((FF (o,())).1,()))):=by kernel_rfl
theorem Mf(p0 p1 p2 p3 p4:Int)(cs:List (den bZ))(ms:List Int)(ss:List (den cr))(fs:List (den eJ))(ds:List (den bZ))(n i:Int):(rO (aX l6 (p0,p1,p2,p3,p4,cs,ms,ss,fs,ds,n,i,()))).val=
 bif decide (i<n)then
  bK (cg i ((ds.length:Int))) (
  bK (Pw (ss,fs,p0,p1,p2,p3,p4,cs,ms,i,(ds.getD i.toNat (bJ ((Ty.int .i64).pair ((Ty.int .i64).pair (Ty.int .u64))))).1,(ds.getD i.toNat (bJ ((Ty.int .i64).pair ((Ty.int .i64).pair (Ty.int .u64))))).2.1,(ds.getD i.toNat (bJ ((Ty.int .i64).pair ((Ty.int .i64).pair (Ty.int .u64))))).2.2,())) (
  bif !(Px (ss,fs,p0,p1,p2,p3,p4,cs,ms,i,(ds.getD i.toNat (bJ ((Ty.int .i64).pair ((Ty.int .i64).pair (Ty.int .u64))))).1,(ds.getD i.toNat (bJ ((Ty.int .i64).pair ((Ty.int .i64).pair (Ty.int .u64))))).2.1,(ds.getD i.toNat (bJ ((Ty.int .i64).pair ((Ty.int .i64).pair (Ty.int .u64))))).2.2,())).1 then
   some (.out 1 (aX lL (false,())))
  else
  some (.next (aX l6 (p0,p1,p2,p3,p4,cs,ms,ss,fs,ds,n,bV .i64 i (1),())))))
 else
 some (.out 0 (aX lK (()))):=by kernel_rfl
theorem abH(ss:List (den cr))(fs:List (den eJ))(p0 p1 p2 p3 p4:Int)(cs:List (den bZ))(ms:List Int):(t84 (ss,fs,p0,p1,p2,p3,p4,cs,ms,())).val=
 bif bif decide (p0<(-1))then true else bif decide (p1<0)then true else bif decide ((ss.length:Int)<=p1)then true else bif decide (p4<0)then true else bif decide (4096<p4)then true else decide (p0=(-1)) ^^ decide (0<(cs.length:Int))then
  some (aX rP (false,()))
 else
 bK (cg p1 ((ss.length:Int))) (
 bif bif !decide (p2=Int.ofNat (List.length (ss.getD p1.toNat (bJ ((Ty.int .i64).aB.pair (Ty.int .i64).aB))).1))then true else !decide (p3=Int.ofNat (List.length (ss.getD p1.toNat (bJ ((Ty.int .i64).aB.pair (Ty.int .i64).aB))).2))then
  some (aX rP (false,()))
 else
 bK (xA rO [Ty.int .i64,Ty.int .i64,Ty.int .i64,Ty.int .i64,Ty.int .i64,((Ty.int .i64).pair ((Ty.int .i64).pair (Ty.int .u64))).aB,(Ty.int .i64).aB,((Ty.int .i64).aB.pair (Ty.int .i64).aB).aB,((Ty.int .i64).pair ((Ty.int .i64).pair ((Ty.int .i64).pair ((Ty.int .i64).pair ((Ty.int .i64).pair (((Ty.int .i64).pair ((Ty.int .i64).pair (Ty.int .u64))).aB.pair (Ty.int .i64).aB)))))).aB,((Ty.int .i64).pair ((Ty.int .i64).pair (Ty.int .u64))).aB,Ty.int .i64,Ty.int .i64] [] [Ty.bool] (p0,p1,p2,p3,p4,cs,ms,ss,fs,cs,(cs.length:Int),0,())) (
 bif uT rO [Ty.int .i64,Ty.int .i64,Ty.int .i64,Ty.int .i64,Ty.int .i64,((Ty.int .i64).pair ((Ty.int .i64).pair (Ty.int .u64))).aB,(Ty.int .i64).aB,((Ty.int .i64).aB.pair (Ty.int .i64).aB).aB,((Ty.int .i64).pair ((Ty.int .i64).pair ((Ty.int .i64).pair ((Ty.int .i64).pair ((Ty.int .i64).pair (((Ty.int .i64).pair ((Ty.int .i64).pair (Ty.int .u64))).aB.pair (Ty.int .i64).aB)))))).aB,((Ty.int .i64).pair ((Ty.int .i64).pair (Ty.int .u64))).aB,Ty.int .i64,Ty.int .i64] (p0,p1,p2,p3,p4,cs,ms,ss,fs,cs,(cs.length:Int),0,())then
  some (aX rP (true,()))
 else
 some (aX rP ((iE rO [Ty.int .i64,Ty.int .i64,Ty.int .i64,Ty.int .i64,Ty.int .i64,((Ty.int .i64).pair ((Ty.int .i64).pair (Ty.int .u64))).aB,(Ty.int .i64).aB,((Ty.int .i64).aB.pair (Ty.int .i64).aB).aB,((Ty.int .i64).pair ((Ty.int .i64).pair ((Ty.int .i64).pair ((Ty.int .i64).pair ((Ty.int .i64).pair (((Ty.int .i64).pair ((Ty.int .i64).pair (Ty.int .u64))).aB.pair (Ty.int .i64).aB)))))).aB,((Ty.int .i64).pair ((Ty.int .i64).pair (Ty.int .u64))).aB,Ty.int .i64,Ty.int .i64] [Ty.bool] (p0,p1,p2,p3,p4,cs,ms,ss,fs,cs,(cs.length:Int),0,())).1,())))):=by kernel_rfl
theorem Mg(ss:List (den cr))(fs:List (den eJ))(l:List (den cr))(n i:Int):(f340 (aX fw (ss,fs,l,n,i,()))).val=
 bif decide (i<n)then
  bK (cg i ((l.length:Int))) (
  bK (QW ((l.getD i.toNat (bJ ((Ty.int .i64).aB.pair (Ty.int .i64).aB))).1,())) (
  bif !(QX ((l.getD i.toNat (bJ ((Ty.int .i64).aB.pair (Ty.int .i64).aB))).1,())).1 then
   some (.out 1 (aX gU (1,())))
  else
  bK (QW ((l.getD i.toNat (bJ ((Ty.int .i64).aB.pair (Ty.int .i64).aB))).2,())) (
  bif !(QX ((l.getD i.toNat (bJ ((Ty.int .i64).aB.pair (Ty.int .i64).aB))).2,())).1 then
   some (.out 1 (aX gU (1,())))
  else
  some (.next (aX fw (ss,fs,l,n,bV .i64 i (1),()))))))
 else
 some (.out 0 (aX ec (ss,fs,()))):=by kernel_rfl
theorem Mh(ss:List (den cr))(fs:List (den eJ))(n i:Int):(f342 (aX jt (ss,fs,n,i,()))).val=
 bif decide (i<n)then
  bK (cg i ((fs.length:Int))) (
  bK (YJ (ss,fs,(fs.getD i.toNat (bJ ((Ty.int .i64).pair ((Ty.int .i64).pair ((Ty.int .i64).pair ((Ty.int .i64).pair ((Ty.int .i64).pair (((Ty.int .i64).pair ((Ty.int .i64).pair (Ty.int .u64))).aB.pair (Ty.int .i64).aB)))))))).1,(fs.getD i.toNat (bJ ((Ty.int .i64).pair ((Ty.int .i64).pair ((Ty.int .i64).pair ((Ty.int .i64).pair ((Ty.int .i64).pair (((Ty.int .i64).pair ((Ty.int .i64).pair (Ty.int .u64))).aB.pair (Ty.int .i64).aB)))))))).2.1,(fs.getD i.toNat (bJ ((Ty.int .i64).pair ((Ty.int .i64).pair ((Ty.int .i64).pair ((Ty.int .i64).pair ((Ty.int .i64).pair (((Ty.int .i64).pair ((Ty.int .i64).pair (Ty.int .u64))).aB.pair (Ty.int .i64).aB)))))))).2.2.1,(fs.getD i.toNat (bJ ((Ty.int .i64).pair ((Ty.int .i64).pair ((Ty.int .i64).pair ((Ty.int .i64).pair ((Ty.int .i64).pair (((Ty.int .i64).pair ((Ty.int .i64).pair (Ty.int .u64))).aB.pair (Ty.int .i64).aB)))))))).2.2.2.1,(fs.getD i.toNat (bJ ((Ty.int .i64).pair ((Ty.int .i64).pair ((Ty.int .i64).pair ((Ty.int .i64).pair ((Ty.int .i64).pair (((Ty.int .i64).pair ((Ty.int .i64).pair (Ty.int .u64))).aB.pair (Ty.int .i64).aB)))))))).2.2.2.2.1,(fs.getD i.toNat (bJ ((Ty.int .i64).pair ((Ty.int .i64).pair ((Ty.int .i64).pair ((Ty.int .i64).pair ((Ty.int .i64).pair (((Ty.int .i64).pair ((Ty.int .i64).pair (Ty.int .u64))).aB.pair (Ty.int .i64).aB)))))))).2.2.2.2.2.1,(fs.getD i.toNat (bJ ((Ty.int .i64).pair ((Ty.int .i64).pair ((Ty.int .i64).pair ((Ty.int .i64).pair ((Ty.int .i64).pair (((Ty.int .i64).pair ((Ty.int .i64).pair (Ty.int .u64))).aB.pair (Ty.int .i64).aB)))))))).2.2.2.2.2.2,())) (
  bif !(YK (ss,fs,(fs.getD i.toNat (bJ ((Ty.int .i64).pair ((Ty.int .i64).pair ((Ty.int .i64).pair ((Ty.int .i64).pair ((Ty.int .i64).pair (((Ty.int .i64).pair ((Ty.int .i64).pair (Ty.int .u64))).aB.pair (Ty.int .i64).aB)))))))).1,(fs.getD i.toNat (bJ ((Ty.int .i64).pair ((Ty.int .i64).pair ((Ty.int .i64).pair ((Ty.int .i64).pair ((Ty.int .i64).pair (((Ty.int .i64).pair ((Ty.int .i64).pair (Ty.int .u64))).aB.pair (Ty.int .i64).aB)))))))).2.1,(fs.getD i.toNat (bJ ((Ty.int .i64).pair ((Ty.int .i64).pair ((Ty.int .i64).pair ((Ty.int .i64).pair ((Ty.int .i64).pair (((Ty.int .i64).pair ((Ty.int .i64).pair (Ty.int .u64))).aB.pair (Ty.int .i64).aB)))))))).2.2.1,(fs.getD i.toNat (bJ ((Ty.int .i64).pair ((Ty.int .i64).pair ((Ty.int .i64).pair ((Ty.int .i64).pair ((Ty.int .i64).pair (((Ty.int .i64).pair ((Ty.int .i64).pair (Ty.int .u64))).aB.pair (Ty.int .i64).aB)))))))).2.2.2.1,(fs.getD i.toNat (bJ ((Ty.int .i64).pair ((Ty.int .i64).pair ((Ty.int .i64).pair ((Ty.int .i64).pair ((Ty.int .i64).pair (((Ty.int .i64).pair ((Ty.int .i64).pair (Ty.int .u64))).aB.pair (Ty.int .i64).aB)))))))).2.2.2.2.1,(fs.getD i.toNat (bJ ((Ty.int .i64).pair ((Ty.int .i64).pair ((Ty.int .i64).pair ((Ty.int .i64).pair ((Ty.int .i64).pair (((Ty.int .i64).pair ((Ty.int .i64).pair (Ty.int .u64))).aB.pair (Ty.int .i64).aB)))))))).2.2.2.2.2.1,(fs.getD i.toNat (bJ ((Ty.int .i64).pair ((Ty.int .i64).pair ((Ty.int .i64).pair ((Ty.int .i64).pair ((Ty.int .i64).pair (((Ty.int .i64).pair ((Ty.int .i64).pair (Ty.int .u64))).aB.pair (Ty.int .i64).aB)))))))).2.2.2.2.2.2,())).1 then
   some (.out 1 (aX iP (1,())))
  else
  some (.next (aX jt (ss,fs,n,bV .i64 i (1),())))))
 else
 some (.out 0 (aX jT (()))):=by kernel_rfl
theorem abI(ss:List (den cr))(fs:List (den eJ)):(t34 (ss,fs,())).val=
 bK (xA f340 [((Ty.int .i64).aB.pair (Ty.int .i64).aB).aB,((Ty.int .i64).pair ((Ty.int .i64).pair ((Ty.int .i64).pair ((Ty.int .i64).pair ((Ty.int .i64).pair (((Ty.int .i64).pair ((Ty.int .i64).pair (Ty.int .u64))).aB.pair (Ty.int .i64).aB)))))).aB,((Ty.int .i64).aB.pair (Ty.int .i64).aB).aB,Ty.int .i64,Ty.int .i64] [((Ty.int .i64).aB.pair (Ty.int .i64).aB).aB,((Ty.int .i64).pair ((Ty.int .i64).pair ((Ty.int .i64).pair ((Ty.int .i64).pair ((Ty.int .i64).pair (((Ty.int .i64).pair ((Ty.int .i64).pair (Ty.int .u64))).aB.pair (Ty.int .i64).aB)))))).aB] [Ty.int .i64] (ss,fs,ss,(ss.length:Int),0,())) (
 bif uT f340 [((Ty.int .i64).aB.pair (Ty.int .i64).aB).aB,((Ty.int .i64).pair ((Ty.int .i64).pair ((Ty.int .i64).pair ((Ty.int .i64).pair ((Ty.int .i64).pair (((Ty.int .i64).pair ((Ty.int .i64).pair (Ty.int .u64))).aB.pair (Ty.int .i64).aB)))))).aB,((Ty.int .i64).aB.pair (Ty.int .i64).aB).aB,Ty.int .i64,Ty.int .i64] (ss,fs,ss,(ss.length:Int),0,())then
  bK (xA f342 [((Ty.int .i64).aB.pair (Ty.int .i64).aB).aB,((Ty.int .i64).pair ((Ty.int .i64).pair ((Ty.int .i64).pair ((Ty.int .i64).pair ((Ty.int .i64).pair (((Ty.int .i64).pair ((Ty.int .i64).pair (Ty.int .u64))).aB.pair (Ty.int .i64).aB)))))).aB,Ty.int .i64,Ty.int .i64] [] [Ty.int .i64] ((iE f340 [((Ty.int .i64).aB.pair (Ty.int .i64).aB).aB,((Ty.int .i64).pair ((Ty.int .i64).pair ((Ty.int .i64).pair ((Ty.int .i64).pair ((Ty.int .i64).pair (((Ty.int .i64).pair ((Ty.int .i64).pair (Ty.int .u64))).aB.pair (Ty.int .i64).aB)))))).aB,((Ty.int .i64).aB.pair (Ty.int .i64).aB).aB,Ty.int .i64,Ty.int .i64] [((Ty.int .i64).aB.pair (Ty.int .i64).aB).aB,((Ty.int .i64).pair ((Ty.int .i64).pair ((Ty.int .i64).pair ((Ty.int .i64).pair ((Ty.int .i64).pair (((Ty.int .i64).pair ((Ty.int .i64).pair (Ty.int .u64))).aB.pair (Ty.int .i64).aB)))))).aB] (ss,fs,ss,(ss.length:Int),0,())).1,(iE f340 [((Ty.int .i64).aB.pair (Ty.int .i64).aB).aB,((Ty.int .i64).pair ((Ty.int .i64).pair ((Ty.int .i64).pair ((Ty.int .i64).pair ((Ty.int .i64).pair (((Ty.int .i64).pair ((Ty.int .i64).pair (Ty.int .u64))).aB.pair (Ty.int .i64).aB)))))).aB,((Ty.int .i64).aB.pair (Ty.int .i64).aB).aB,Ty.int .i64,Ty.int .i64] [((Ty.int .i64).aB.pair (Ty.int .i64).aB).aB,((Ty.int .i64).pair ((Ty.int .i64).pair ((Ty.int .i64).pair ((Ty.int .i64).pair ((Ty.int .i64).pair (((Ty.int .i64).pair ((Ty.int .i64).pair (Ty.int .u64))).aB.pair (Ty.int .i64).aB)))))).aB] (ss,fs,ss,(ss.length:Int),0,())).2.1,Int.ofNat (List.length (iE f340 [((Ty.int .i64).aB.pair (Ty.int .i64).aB).aB,((Ty.int .i64).pair ((Ty.int .i64).pair ((Ty.int .i64).pair ((Ty.int .i64).pair ((Ty.int .i64).pair (((Ty.int .i64).pair ((Ty.int .i64).pair (Ty.int .u64))).aB.pair (Ty.int .i64).aB)))))).aB,((Ty.int .i64).aB.pair (Ty.int .i64).aB).aB,Ty.int .i64,Ty.int .i64] [((Ty.int .i64).aB.pair (Ty.int .i64).aB).aB,((Ty.int .i64).pair ((Ty.int .i64).pair ((Ty.int .i64).pair ((Ty.int .i64).pair ((Ty.int .i64).pair (((Ty.int .i64).pair ((Ty.int .i64).pair (Ty.int .u64))).aB.pair (Ty.int .i64).aB)))))).aB] (ss,fs,ss,(ss.length:Int),0,())).2.1),0,())) (
  bif uT f342 [((Ty.int .i64).aB.pair (Ty.int .i64).aB).aB,((Ty.int .i64).pair ((Ty.int .i64).pair ((Ty.int .i64).pair ((Ty.int .i64).pair ((Ty.int .i64).pair (((Ty.int .i64).pair ((Ty.int .i64).pair (Ty.int .u64))).aB.pair (Ty.int .i64).aB)))))).aB,Ty.int .i64,Ty.int .i64] ((iE f340 [((Ty.int .i64).aB.pair (Ty.int .i64).aB).aB,((Ty.int .i64).pair ((Ty.int .i64).pair ((Ty.int .i64).pair ((Ty.int .i64).pair ((Ty.int .i64).pair (((Ty.int .i64).pair ((Ty.int .i64).pair (Ty.int .u64))).aB.pair (Ty.int .i64).aB)))))).aB,((Ty.int .i64).aB.pair (Ty.int .i64).aB).aB,Ty.int .i64,Ty.int .i64] [((Ty.int .i64).aB.pair (Ty.int .i64).aB).aB,((Ty.int .i64).pair ((Ty.int .i64).pair ((Ty.int .i64).pair ((Ty.int .i64).pair ((Ty.int .i64).pair (((Ty.int .i64).pair ((Ty.int .i64).pair (Ty.int .u64))).aB.pair (Ty.int .i64).aB)))))).aB] (ss,fs,ss,(ss.length:Int),0,())).1,(iE f340 [((Ty.int .i64).aB.pair (Ty.int .i64).aB).aB,((Ty.int .i64).pair ((Ty.int .i64).pair ((Ty.int .i64).pair ((Ty.int .i64).pair ((Ty.int .i64).pair (((Ty.int .i64).pair ((Ty.int .i64).pair (Ty.int .u64))).aB.pair (Ty.int .i64).aB)))))).aB,((Ty.int .i64).aB.pair (Ty.int .i64).aB).aB,Ty.int .i64,Ty.int .i64] [((Ty.int .i64).aB.pair (Ty.int .i64).aB).aB,((Ty.int .i64).pair ((Ty.int .i64).pair ((Ty.int .i64).pair ((Ty.int .i64).pair ((Ty.int .i64).pair (((Ty.int .i64).pair ((Ty.int .i64).pair (Ty.int .u64))).aB.pair (Ty.int .i64).aB)))))).aB] (ss,fs,ss,(ss.length:Int),0,())).2.1,Int.ofNat (List.length (iE f340 [((Ty.int .i64).aB.pair (Ty.int .i64).aB).aB,((Ty.int .i64).pair ((Ty.int .i64).pair ((Ty.int .i64).pair ((Ty.int .i64).pair ((Ty.int .i64).pair (((Ty.int .i64).pair ((Ty.int .i64).pair (Ty.int .u64))).aB.pair (Ty.int .i64).aB)))))).aB,((Ty.int .i64).aB.pair (Ty.int .i64).aB).aB,Ty.int .i64,Ty.int .i64] [((Ty.int .i64).aB.pair (Ty.int .i64).aB).aB,((Ty.int .i64).pair ((Ty.int .i64).pair ((Ty.int .i64).pair ((Ty.int .i64).pair ((Ty.int .i64).pair (((Ty.int .i64).pair ((Ty.int .i64).pair (Ty.int .u64))).aB.pair (Ty.int .i64).aB)))))).aB] (ss,fs,ss,(ss.length:Int),0,())).2.1),0,())then
   some (aX rQ (0,()))
  else
  some (aX rQ ((iE f342 [((Ty.int .i64).aB.pair (Ty.int .i64).aB).aB,((Ty.int .i64).pair ((Ty.int .i64).pair ((Ty.int .i64).pair ((Ty.int .i64).pair ((Ty.int .i64).pair (((Ty.int .i64).pair ((Ty.int .i64).pair (Ty.int .u64))).aB.pair (Ty.int .i64).aB)))))).aB,Ty.int .i64,Ty.int .i64] [Ty.int .i64] ((iE f340 [((Ty.int .i64).aB.pair (Ty.int .i64).aB).aB,((Ty.int .i64).pair ((Ty.int .i64).pair ((Ty.int .i64).pair ((Ty.int .i64).pair ((Ty.int .i64).pair (((Ty.int .i64).pair ((Ty.int .i64).pair (Ty.int .u64))).aB.pair (Ty.int .i64).aB)))))).aB,((Ty.int .i64).aB.pair (Ty.int .i64).aB).aB,Ty.int .i64,Ty.int .i64] [((Ty.int .i64).aB.pair (Ty.int .i64).aB).aB,((Ty.int .i64).pair ((Ty.int .i64).pair ((Ty.int .i64).pair ((Ty.int .i64).pair ((Ty.int .i64).pair (((Ty.int .i64).pair ((Ty.int .i64).pair (Ty.int .u64))).aB.pair (Ty.int .i64).aB)))))).aB] (ss,fs,ss,(ss.length:Int),0,())).1,(iE f340 [((Ty.int .i64).aB.pair (Ty.int .i64).aB).aB,((Ty.int .i64).pair ((Ty.int .i64).pair ((Ty.int .i64).pair ((Ty.int .i64).pair ((Ty.int .i64).pair (((Ty.int .i64).pair ((Ty.int .i64).pair (Ty.int .u64))).aB.pair (Ty.int .i64).aB)))))).aB,((Ty.int .i64).aB.pair (Ty.int .i64).aB).aB,Ty.int .i64,Ty.int .i64] [((Ty.int .i64).aB.pair (Ty.int .i64).aB).aB,((Ty.int .i64).pair ((Ty.int .i64).pair ((Ty.int .i64).pair ((Ty.int .i64).pair ((Ty.int .i64).pair (((Ty.int .i64).pair ((Ty.int .i64).pair (Ty.int .u64))).aB.pair (Ty.int .i64).aB)))))).aB] (ss,fs,ss,(ss.length:Int),0,())).2.1,Int.ofNat (List.length (iE f340 [((Ty.int .i64).aB.pair (Ty.int .i64).aB).aB,((Ty.int .i64).pair ((Ty.int .i64).pair ((Ty.int .i64).pair ((Ty.int .i64).pair ((Ty.int .i64).pair (((Ty.int .i64).pair ((Ty.int .i64).pair (Ty.int .u64))).aB.pair (Ty.int .i64).aB)))))).aB,((Ty.int .i64).aB.pair (Ty.int .i64).aB).aB,Ty.int .i64,Ty.int .i64] [((Ty.int .i64).aB.pair (Ty.int .i64).aB).aB,((Ty.int .i64).pair ((Ty.int .i64).pair ((Ty.int .i64).pair ((Ty.int .i64).pair ((Ty.int .i64).pair (((Ty.int .i64).pair ((Ty.int .i64).pair (Ty.int .u64))).aB.pair (Ty.int .i64).aB)))))).aB] (ss,fs,ss,(ss.length:Int),0,())).2.1),0,())).1,())))
 else
 some (aX rQ ((iE f340 [((Ty.int .i64).aB.pair (Ty.int .i64).aB).aB,((Ty.int .i64).pair ((Ty.int .i64).pair ((Ty.int .i64).pair ((Ty.int .i64).pair ((Ty.int .i64).pair (((Ty.int .i64).pair ((Ty.int .i64).pair (Ty.int .u64))).aB.pair (Ty.int .i64).aB)))))).aB,((Ty.int .i64).aB.pair (Ty.int .i64).aB).aB,Ty.int .i64,Ty.int .i64] [Ty.int .i64] (ss,fs,ss,(ss.length:Int),0,())).1,()))):=by kernel_rfl
theorem Gt(a b:List Int)(i:Int):(nI (aX kY (a,b,i,()))).val=
 bif decide (i<(a.length:Int))then
  bK (cg i ((a.length:Int))&&cg i ((b.length:Int))) (
  bif !decide (a.getD i.toNat (bJ (Ty.int .u64))=b.getD i.toNat (bJ (Ty.int .u64)))then
   some (.out 1 (aX kZ (false,())))
  else
  some (.next (aX kY (a,b,bV .i64 i (1),()))))
 else
 some (.out 0 (aX jv (()))):=by kernel_rfl
theorem abJ(a b:List Int):(t25 (a,b,())).val=
 bif !decide ((a.length:Int)=(b.length:Int))then
  some (aX yQ (false,()))
 else
 bK (xA nI [(Ty.int .u64).aB,(Ty.int .u64).aB,Ty.int .i64] [] [Ty.bool] (a,b,0,())) (
 bif uT nI [(Ty.int .u64).aB,(Ty.int .u64).aB,Ty.int .i64] (a,b,0,())then
  some (aX yQ (true,()))
 else
 some (aX yQ ((iE nI [(Ty.int .u64).aB,(Ty.int .u64).aB,Ty.int .i64] [Ty.bool] (a,b,0,())).1,()))):=by kernel_rfl
theorem abK(a b d a2 b2 d2:Int)(c c2:List Int):(t16 (a,b,c,d,a2,b2,c2,d2,())).val=
 bif decide (a=a2)then
  bif decide (b=b2)then
   bif decide (d=d2)then
    bK (XA (c,c2,())) (
    some (aX w9 ((m25 (c,c2,())).1,())))
   else
   some (aX w9 (false,()))
  else
  some (aX w9 (false,()))
 else
 some (aX w9 (false,())):=by kernel_rfl
end Go.Proofs.Vq

noncomputable section
namespace Go.Proofs.Vq
open Go.Ab Go.Ab.Lf
set_option maxRecDepth 100000
theorem XR(o:Int):(t11 (o,())).val=
 bif decide (o=69)then
  some (aX kh (1,()))
 else
 bif decide (o=80)then
  some (aX kh (1,()))
 else
 bif bif decide (103<=o)then decide (o<=105)else false then
  some (aX kh (1,()))
 else
 bif bif decide (121<=o)then decide (o<=123)else false then
  some (aX kh (1,()))
 else
 bif decide (o=167)then
  some (aX kh (1,()))
 else
 bif decide (o=172)then
  some (aX kh (1,()))
 else
 bif decide (o=173)then
  some (aX kh (1,()))
 else
 bif bif decide (192<=o)then decide (o<=196)else false then
  some (aX kh (1,()))
 else
 bif bif decide (70<=o)then decide (o<=79)else false then
  some (aX kh (2,()))
 else
 bif bif decide (81<=o)then decide (o<=90)else false then
  some (aX kh (2,()))
 else
 bif bif decide (106<=o)then decide (o<=120)else false then
  some (aX kh (2,()))
 else
 bif bif decide (124<=o)then decide (o<=138)else false then
  some (aX kh (2,()))
 else
 some (aX kh (0,())):=by kernel_rfl
end Go.Proofs.Vq

noncomputable section
namespace Go.Ab.Lf
end Go.Ab.Lf
namespace Go.Proofs.Vq
open Go.Ab Go.Ab.Lf
set_option maxRecDepth 100000
def U(z:Int):Prop:=0<=z/\z<=18446744073709551615
theorem sQ{α:Type}{c:Bool}{x:Option α}(h:c=true):bK c x=x:=by rw[h];rfl
def Cd(to:List Ty)(P:aL to->Prop)(v:Option (List Pl)):Prop:= ∃ y,v=some (aX to y)/\P y
theorem Cd.bif{to:List Ty}{P:aL to->Prop}{c:Bool}{a b:Option (List Pl)}(h1:c=true->Cd to P a)(h2:c=false->Cd to P b):Cd to P (bif c then a else b):=by
 cases c
 ·exact h2 rfl
 ·exact h1 rfl
theorem Cd.ok{to:List Ty}{P:aL to->Prop}{y:aL to}(h:P y):Cd to P (some (aX to y)):=⟨y,rfl,h⟩
theorem Cd.km{to:List Ty}{P:aL to->Prop}{t:Lf.T (List Pl)}{k:Bool}{m:aL to}(hk:k=ef to t)(hm:m=cN to t)(h:Cd to P t.val):k=true/\P m:=by
 obtain⟨y,h1,h2⟩:=h
 obtain⟨a,b⟩:=cZ hk hm h1
 exact⟨a,by rw[b];exact h2⟩
theorem XS(o:Int):LY (o,())=true/\((m11 (o,())).1=0∨(m11 (o,())).1=1∨(m11 (o,())).1=2):=by
 refine Cd.km (P:=fun y:aL kh=>y.1=0∨y.1=1∨y.1=2) (ao _) (ao _) ?_
 rw[XR]
 repeat' first
  |exact Cd.ok (.inl rfl)
  |exact Cd.ok (.inr (.inl rfl))
  |exact Cd.ok (.inr (.inr rfl))
  |refine Cd.bif (fun _=>?_) (fun _=>?_)
end Go.Proofs.Vq

noncomputable section
namespace Go.Proofs.Vq
open Go.Ab Go.Ab.Lf
set_option maxRecDepth 100000
end Go.Proofs.Vq

noncomputable section
namespace Go.Proofs.Vq
open Go.Ab Go.Ab.Lf
set_option maxRecDepth 100000
theorem lO(x:lT)(a b:Int)(ha:0<=a)(hb:0<=b)(uO:b<=1099511627776)(hl:x.st.length<=1099511627776)(h1:a<=(x.st.length:Int))(h2:(x.st.length:Int) - a+b<=1048576):
 kX (aQ [i64,i64] x (a,b,()))=true/\aG (aQ [i64,i64] x (a,b,()))=(true,aQ [] x ()):=by
 refine cZ (ao _) (ao _) ?_
 rw[XQ]
 have e1:aW .i64 (x.st.length:Int) a=(x.st.length:Int) - a:=wrap_i64 (by omega) (by omega)
 have e2:bV .i64 ((x.st.length:Int) - a) b=(x.st.length:Int) - a+b:=wrap_i64 (by omega) (by omega)
 rw[e1,e2,decide_eq_false (by omega),decide_eq_false (by omega)]
 rfl
section
variable (g:Cg)(m:yL)(fu ho de:Int)(f2:den eJ)(pc:Int)
end
end Go.Proofs.Vq

noncomputable section
namespace Go.Proofs.Vq
open Go.Ab Go.Ab.Lf
set_option maxRecDepth 100000
theorem df{p:Prop}[Decidable p](h: ¬ p):decide p=false:=decide_eq_false h
theorem dt{p:Prop}[Decidable p](h:p):decide p=true:=decide_eq_true h
section
variable (g:Cg)(m:yL)(fu ho de:Int)(f2:den eJ)(pc:Int)
end
end Go.Proofs.Vq

noncomputable section
namespace Go.Proofs.Vq
open Go.Ab Go.Ab.Lf
set_option maxRecDepth 100000
section
variable (g:Cg)(m:yL)(fu ho de:Int)(cs:List (den bZ))(ms:List Int)
theorem sR{α:Type}{l r:List α}{c:α}{j:Nat}(h:l.drop j=c::r):l.drop (j+1)=r:=by rw[<-List.tail_drop,h];rfl
theorem xB{j:Nat}(h:j<=1099511627776):bV .i64 (j:Int) 1=((j+1:Nat):Int):=aaZ (by omega)
end
end Go.Proofs.Vq

noncomputable section
namespace Go.Proofs.Vq
open Go.Ab Go.Ab.Lf
set_option maxRecDepth 100000
def mc3(y:aL (rR [i64,i64,.aB u64])):yL:=⟨y.1,y.2.1,⟨y.2.2.1,y.2.2.2.1,y.2.2.2.2.1,y.2.2.2.2.2.1,(y.2.2.2.2.2.2.1,y.2.2.2.2.2.2.2.1,y.2.2.2.2.2.2.2.2.1,y.2.2.2.2.2.2.2.2.2.1,y.2.2.2.2.2.2.2.2.2.2.1,y.2.2.2.2.2.2.2.2.2.2.2.1,y.2.2.2.2.2.2.2.2.2.2.2.2.1,y.2.2.2.2.2.2.2.2.2.2.2.2.2.1,y.2.2.2.2.2.2.2.2.2.2.2.2.2.2.1,y.2.2.2.2.2.2.2.2.2.2.2.2.2.2.2.1,y.2.2.2.2.2.2.2.2.2.2.2.2.2.2.2.2.1,()),y.2.2.2.2.2.2.2.2.2.2.2.2.2.2.2.2.2.1,y.2.2.2.2.2.2.2.2.2.2.2.2.2.2.2.2.2.2.1⟩,⟨y.2.2.2.2.2.2.2.2.2.2.2.2.2.2.2.2.2.2.2.1,y.2.2.2.2.2.2.2.2.2.2.2.2.2.2.2.2.2.2.2.2.1,y.2.2.2.2.2.2.2.2.2.2.2.2.2.2.2.2.2.2.2.2.2.1⟩,(y.2.2.2.2.2.2.2.2.2.2.2.2.2.2.2.2.2.2.2.2.2.2.1,y.2.2.2.2.2.2.2.2.2.2.2.2.2.2.2.2.2.2.2.2.2.2.2.1,y.2.2.2.2.2.2.2.2.2.2.2.2.2.2.2.2.2.2.2.2.2.2.2.2.1,y.2.2.2.2.2.2.2.2.2.2.2.2.2.2.2.2.2.2.2.2.2.2.2.2.2.1,y.2.2.2.2.2.2.2.2.2.2.2.2.2.2.2.2.2.2.2.2.2.2.2.2.2.2.1,y.2.2.2.2.2.2.2.2.2.2.2.2.2.2.2.2.2.2.2.2.2.2.2.2.2.2.2.1,y.2.2.2.2.2.2.2.2.2.2.2.2.2.2.2.2.2.2.2.2.2.2.2.2.2.2.2.2.1,y.2.2.2.2.2.2.2.2.2.2.2.2.2.2.2.2.2.2.2.2.2.2.2.2.2.2.2.2.2.1,y.2.2.2.2.2.2.2.2.2.2.2.2.2.2.2.2.2.2.2.2.2.2.2.2.2.2.2.2.2.2.1,y.2.2.2.2.2.2.2.2.2.2.2.2.2.2.2.2.2.2.2.2.2.2.2.2.2.2.2.2.2.2.2.1,y.2.2.2.2.2.2.2.2.2.2.2.2.2.2.2.2.2.2.2.2.2.2.2.2.2.2.2.2.2.2.2.2.1,()),y.2.2.2.2.2.2.2.2.2.2.2.2.2.2.2.2.2.2.2.2.2.2.2.2.2.2.2.2.2.2.2.2.2.1⟩
theorem abL(g:Cg)(m:yL)(f fu:Int)(az:List Int)(fn:den eJ)(Cc:fn=m.fns.getD f.toNat (bJ eJ))(sg:den cr)(QN:sg=m.sigs.getD (fn.2.1:Int).toNat (bJ cr))(a:aL gI)(ha:a=fm [i64,i64,.aB u64,.aB i64,i64,i64] m (f,fu,az,sg.1,(sg.1.length:Int),0,()))
 (z:aL fL)(hz:z=iE rb gI fL a)(c:aL (oI [i64,.aB u64]))(hc:c=ju [i64,.aB u64] ⟨mc3 z,min (max (z.2.2.2.2.2.2.2.2.2.2.2.2.2.2.2.2.2.2.2.2.2.2.2.2.2.2.2.2.2.2.2.2.2.2.2.1:Int) 0) 100000,0,0,0⟩ (z.2.2.2.2.2.2.2.2.2.2.2.2.2.2.2.2.2.2.2.2.2.2.2.2.2.2.2.2.2.2.2.2.2.2.1,z.2.2.2.2.2.2.2.2.2.2.2.2.2.2.2.2.2.2.2.2.2.2.2.2.2.2.2.2.2.2.2.2.2.2.2.2.1,()))(R:Rn)(hR:R=rnO (g.2 c).2):
 (t23 g (fm [i64,.aB u64,i64] m (f,az,fu,()))).val=
  (let E:=some (aX rS (1,0,[],0,fm [] m ()))
   bif decide (f<0)then E else bif decide ((m.fns.length:Int)<=f)then E else bK (cg f (m.fns.length:Int)) (bif !decide ((az.length:Int)=fn.2.2.1)then E else
   bif m.bad then some (aX rS (40,0,[],0,fm [] m ()))else
   bK (decide (az.length<=1099511627776)) (bK (cg f (m.fns.length:Int)&&cg fn.2.1 (m.sigs.length:Int)) (bK (uS rb gI fL a) (bK (g.1 c)
    (bif decide (R.err=0)then some (aX rS (R.err,0,(g.2 c).1,R.fuel,fm [] R.m ()))else bif decide (R.err=28)then some (aX rS (R.err,R.m.h.code,[],R.fuel,fm [] R.m ()))else some (aX rS (R.err,0,[],R.fuel,fm [] R.m ())))))))):=by
 subst hR;subst hc;subst hz;subst ha;subst QN;subst Cc
 show _=_
 kernel_rfl
end Go.Proofs.Vq

noncomputable section
namespace Go.Proofs.Vq
open Go.Ab Go.Ab.Lf
set_option maxRecDepth 100000
theorem abM(ss:List (den cr))(fs:List (den eJ))(v sm fi tb nH:List Int)(mo:Int)(h:WY)(bad:Bool)(hb:bad= !decide ((YM (ss,fs,())).1=0))(a0:aL jW)(ha:a0=(ss,fs,ss,jV (jU (iF [.bool,i64,i64])) ⟨v,sm,fi,tb,bR,nH,mo⟩ (nG (iF [.bool,i64,i64]) h (q9 [.bool,i64,i64] bR (bad,(ss.length:Int),0,())))))
 (z0:aL gq)(hz:z0=iE sN jW gq a0)(a2:aL ja)(Ss:a2=(z0.2.2.1,z0.2.1,z0.2.2.2.1,z0.2.2.2.2.1,z0.2.2.2.2.2.1,z0.2.2.2.2.2.2.1,z0.2.2.2.2.2.2.2.1,z0.2.2.2.2.2.2.2.2.1,z0.2.2.2.2.2.2.2.2.2.1,z0.2.2.2.2.2.2.2.2.2.2.1,z0.2.2.2.2.2.2.2.2.2.2.2.1,z0.2.2.2.2.2.2.2.2.2.2.2.2.1,z0.2.2.2.2.2.2.2.2.2.2.2.2.2.1,z0.2.2.2.2.2.2.2.2.2.2.2.2.2.2.1,z0.2.2.2.2.2.2.2.2.2.2.2.2.2.2.2.1,z0.2.2.2.2.2.2.2.2.2.2.2.2.2.2.2.2.1,z0.2.2.2.2.2.2.2.2.2.2.2.2.2.2.2.2.2.1,z0.2.2.2.2.2.2.2.2.2.2.2.2.2.2.2.2.2.2.1,z0.2.2.2.2.2.2.2.2.2.2.2.2.2.2.2.2.2.2.2.1,z0.2.2.2.2.2.2.2.2.2.2.2.2.2.2.2.2.2.2.2.2.1,z0.2.2.2.2.2.2.2.2.2.2.2.2.2.2.2.2.2.2.2.2.2.1,z0.2.2.2.2.2.2.2.2.2.2.2.2.2.2.2.2.2.2.2.2.2.2.1,z0.2.2.2.2.2.2.2.2.2.2.2.2.2.2.2.2.2.2.2.2.2.2.2.1,z0.2.2.2.2.2.2.2.2.2.2.2.2.2.2.2.2.2.2.2.2.2.2.2.2.1,z0.2.2.2.2.2.2.2.2.2.2.2.2.2.2.2.2.2.2.2.2.2.2.2.2.2.1,z0.2.2.2.2.2.2.2.2.2.2.2.2.2.2.2.2.2.2.2.2.2.2.2.2.2.2.1,z0.2.2.2.2.2.2.2.2.2.2.2.2.2.2.2.2.2.2.2.2.2.2.2.2.2.2.2.1,z0.2.2.2.2.2.2.2.2.2.2.2.2.2.2.2.2.2.2.2.2.2.2.2.2.2.2.2.2.1,z0.2.2.2.2.2.2.2.2.2.2.2.2.2.2.2.2.2.2.2.2.2.2.2.2.2.2.2.2.2.1,z0.2.2.2.2.2.2.2.2.2.2.2.2.2.2.2.2.2.2.2.2.2.2.2.2.2.2.2.2.2.2.1,z0.2.2.2.2.2.2.2.2.2.2.2.2.2.2.2.2.2.2.2.2.2.2.2.2.2.2.2.2.2.2.2.1,z0.2.2.2.2.2.2.2.2.2.2.2.2.2.2.2.2.2.2.2.2.2.2.2.2.2.2.2.2.2.2.2.2.1,z0.2.2.2.2.2.2.2.2.2.2.2.2.2.2.2.2.2.2.2.2.2.2.2.2.2.2.2.2.2.2.2.2.2.1,z0.2.2.2.2.2.2.2.2.2.2.2.2.2.2.2.2.2.2.2.2.2.2.2.2.2.2.2.2.2.2.2.2.2.2.1,(z0.2.1.length:Int),0,())):
 (t22 (ss,fs,jV (jU []) ⟨v,sm,fi,tb,bR,nH,mo⟩ (nG [] h ()))).val=
  bK (Co bR) (bK (YL (ss,fs,())) (bK (decide (ss.length<=1099511627776)) (bK (uS sN jW gq a0) (bK (decide (z0.2.1.length<=549755813888)) (bK (uS rh ja gu a2) (some (aX yP (iE rh ja gu a2)))))))):=by
 subst Ss;subst hz;subst ha;subst hb
 show _=_
 kernel_rfl
section
variable (cs:List (den bZ))(v sm fi tb nH:List Int)(mo:Int)(h:WY)(bad:Bool)
theorem Gu(md:aL tM)(i:Int)(ss:List (den cr))(n:Int)(fs:List (den eJ))(sg:List (den cr))(s1:den cr)(xx:s1=sg.getD i.toNat (bJ cr)):(sN (aX jW (ss,fs,sg,jV (jU (iF [.bool,i64,i64])) ⟨v,sm,fi,tb,md,nH,mo⟩ (nG (iF [.bool,i64,i64]) h (q9 [.bool,i64,i64] md (bad,n,i,())))))).val=
 bif decide (i<n)then(bK (cg i (sg.length:Int)) (bK (decide (s1.1.length<=1099511627776)) (bK (decide (s1.2.length<=1099511627776)) (bK (cg i (sg.length:Int)) (some (.next (aX jW (ss,fs,sg.set i.toNat (s1.1,s1.2),jV (jU (iF [.bool,i64,i64])) ⟨v,sm,fi,tb,md,nH,mo⟩ (nG (iF [.bool,i64,i64]) h (q9 [.bool,i64,i64] md (bad,n,bV .i64 i 1,())))))))))))else some (.out 0 (aX gq (ss,fs,sg,jV (jU (iF [.bool])) ⟨v,sm,fi,tb,md,nH,mo⟩ (nG (iF [.bool]) h (q9 [.bool] md (bad,())))))):=by
 subst xx
 show _=_
 kernel_rfl
theorem Gv(m:yL)(n i:Int)(fn:den eJ)(hf:fn=m.fns.getD i.toNat (bJ eJ)):(rh (aX ja (fm [i64,i64] m (n,i,())))).val=
 bif decide (i<n)then(bK (cg i (m.fns.length:Int)) (bK (decide (fn.2.2.2.2.2.1.length<=1099511627776)) (bK (cg i (m.fns.length:Int)) (some (.next (aX ja (fm [i64,i64] {m with fns:=m.fns.set i.toNat (fn.1,fn.2.1,fn.2.2.1,fn.2.2.2.1,fn.2.2.2.2.1,fn.2.2.2.2.2.1,fn.2.2.2.2.2.2)} (n,bV .i64 i 1,()))))))))else some (.out 0 (aX gu (fm [] m ()))):=by
 subst hf
 show _=_
 kernel_rfl
end
end Go.Proofs.Vq

noncomputable section
namespace Go.Proofs.Vq
open Go.Ab Go.Ab.Lf
set_option maxRecDepth 100000
section
variable (cs:List (den bZ))
theorem abN:(m11 (15,())).1=0:=by
 have e:LY (15,())=true/\m11 (15,())=(0,()):=by
  refine cZ (ao _) (ao _) ?_
  rw[XR];show _=_;kernel_rfl
 rw[e.2]
theorem a15:FD (15,())=true/\FF (15,())=(true,()):=by
 refine cZ (ao _) (ao _) ?_
 rw[Gs,(XS 15).1,abN];show _=_;kernel_rfl
end
end Go.Proofs.Vq

noncomputable section
namespace Go.Proofs.Vq
open Go.Ab Go.Ab.Lf
set_option maxRecDepth 100000
section
variable (cs:List (den bZ))
end
end Go.Proofs.Vq

noncomputable section
namespace Go.Proofs.Vq
open Go.Ab Go.Ab.Lf
set_option maxRecDepth 100000
theorem abO(g:Cg)(ss:List (den cr))(fs:List (den eJ))(az:List Int)(fu:Int)(X:aL B7)(hX:X=(ss,fs,jV (jU []) uC (nG [] ⟨[],[],0⟩ ())))(z:aL yP)(hz:z=m22 X)(Y:aL B6)(hY:Y=(z.1,z.2.1,z.2.2.1,z.2.2.2.1,z.2.2.2.2.1,z.2.2.2.2.2.1,z.2.2.2.2.2.2.1,z.2.2.2.2.2.2.2.1,z.2.2.2.2.2.2.2.2.1,z.2.2.2.2.2.2.2.2.2.1,z.2.2.2.2.2.2.2.2.2.2.1,z.2.2.2.2.2.2.2.2.2.2.2.1,z.2.2.2.2.2.2.2.2.2.2.2.2.1,z.2.2.2.2.2.2.2.2.2.2.2.2.2.1,z.2.2.2.2.2.2.2.2.2.2.2.2.2.2.1,z.2.2.2.2.2.2.2.2.2.2.2.2.2.2.2.1,z.2.2.2.2.2.2.2.2.2.2.2.2.2.2.2.2.1,z.2.2.2.2.2.2.2.2.2.2.2.2.2.2.2.2.2.1,z.2.2.2.2.2.2.2.2.2.2.2.2.2.2.2.2.2.2.1,z.2.2.2.2.2.2.2.2.2.2.2.2.2.2.2.2.2.2.2.1,z.2.2.2.2.2.2.2.2.2.2.2.2.2.2.2.2.2.2.2.2.1,z.2.2.2.2.2.2.2.2.2.2.2.2.2.2.2.2.2.2.2.2.2.1,z.2.2.2.2.2.2.2.2.2.2.2.2.2.2.2.2.2.2.2.2.2.2.1,z.2.2.2.2.2.2.2.2.2.2.2.2.2.2.2.2.2.2.2.2.2.2.2.1,z.2.2.2.2.2.2.2.2.2.2.2.2.2.2.2.2.2.2.2.2.2.2.2.2.1,z.2.2.2.2.2.2.2.2.2.2.2.2.2.2.2.2.2.2.2.2.2.2.2.2.2.1,z.2.2.2.2.2.2.2.2.2.2.2.2.2.2.2.2.2.2.2.2.2.2.2.2.2.2.1,z.2.2.2.2.2.2.2.2.2.2.2.2.2.2.2.2.2.2.2.2.2.2.2.2.2.2.2.1,z.2.2.2.2.2.2.2.2.2.2.2.2.2.2.2.2.2.2.2.2.2.2.2.2.2.2.2.2.1,z.2.2.2.2.2.2.2.2.2.2.2.2.2.2.2.2.2.2.2.2.2.2.2.2.2.2.2.2.2.1,z.2.2.2.2.2.2.2.2.2.2.2.2.2.2.2.2.2.2.2.2.2.2.2.2.2.2.2.2.2.2.1,z.2.2.2.2.2.2.2.2.2.2.2.2.2.2.2.2.2.2.2.2.2.2.2.2.2.2.2.2.2.2.2.1,z.2.2.2.2.2.2.2.2.2.2.2.2.2.2.2.2.2.2.2.2.2.2.2.2.2.2.2.2.2.2.2.2.1,z.2.2.2.2.2.2.2.2.2.2.2.2.2.2.2.2.2.2.2.2.2.2.2.2.2.2.2.2.2.2.2.2.2.1,0,az,fu,()))(r:aL rS)(hr:r=m23 g Y):
 (t14 g (ss,fs,az,fu,())).val=bK (Co bR) (bK (cF 0 0 0) (bK (decide (([]:List Int).length<=1099511627776)) (bK (QZ X) (bK (Xy g Y) (some (aX B8 (r.1,r.2.1,r.2.2.1,r.2.2.2.1,r.2.2.2.2.2.2.1,r.2.2.2.2.2.2.2.1,r.2.2.2.2.2.2.2.2.1,r.2.2.2.2.2.2.2.2.2.1,r.2.2.2.2.2.2.2.2.2.2.1,r.2.2.2.2.2.2.2.2.2.2.2.1,r.2.2.2.2.2.2.2.2.2.2.2.2.1,r.2.2.2.2.2.2.2.2.2.2.2.2.2.1,r.2.2.2.2.2.2.2.2.2.2.2.2.2.2.1,r.2.2.2.2.2.2.2.2.2.2.2.2.2.2.2.1,r.2.2.2.2.2.2.2.2.2.2.2.2.2.2.2.2.1,r.2.2.2.2.2.2.2.2.2.2.2.2.2.2.2.2.2.1,r.2.2.2.2.2.2.2.2.2.2.2.2.2.2.2.2.2.2.1,r.2.2.2.2.2.2.2.2.2.2.2.2.2.2.2.2.2.2.2.1,r.2.2.2.2.2.2.2.2.2.2.2.2.2.2.2.2.2.2.2.2.1,r.2.2.2.2.2.2.2.2.2.2.2.2.2.2.2.2.2.2.2.2.2.1,r.2.2.2.2.2.2.2.2.2.2.2.2.2.2.2.2.2.2.2.2.2.2.1,()))))))):=by
 subst hr;subst hY;subst hz;subst hX
 show _=_
 kernel_rfl
end Go.Proofs.Vq

noncomputable section
namespace Go.Proofs.Vq
open Go.Ab Go.Ab.Lf
set_option maxRecDepth 100000
end Go.Proofs.Vq

noncomputable section
namespace Go.Proofs.Vq
open Go.Ab Go.Ab.Lf
set_option maxRecDepth 100000
theorem Gw(i o lo:Int)(cs:List (den bZ))(a:List Int)(j:Int):(rk (aX jX (i,o,lo,cs,a,j,()))).val=
 bif decide (j<i)then bK (roomy 8 (a.length+[(126:Int)].length)) (some (.next (aX jX (i,o,lo,cs,app a [(126:Int)],bV .i64 j 1,()))))else some (.out 0 (aX fM (i,o,lo,cs,a,()))):=by
 show _=_
 kernel_rfl
theorem Gx(i o lo:Int)(cs:List (den bZ))(a b:List Int)(j:Int):(rm (aX jb (i,o,lo,cs,a,b,j,()))).val=
 bif decide (j<o)then bK (roomy 8 (b.length+[(126:Int)].length)) (some (.next (aX jb (i,o,lo,cs,a,app b [(126:Int)],bV .i64 j 1,()))))else some (.out 0 (aX fN (i,o,lo,cs,a,b,()))):=by
 show _=_
 kernel_rfl
theorem Mi(i:Nat)(o lo:Int)(cs:List (den bZ))(hi:i<=1000): ∀ (k j:Nat),j+k=i->jQ rk (aX jX ((i:Int),o,lo,cs,List.replicate j (126:Int),(j:Int),())) 0 (aX fM ((i:Int),o,lo,cs,List.replicate i (126:Int),()))
 |0,j,h=>by
  have hj:j=i:=by omega
  subst hj
  have e:=Gw (j:Int) o lo cs (List.replicate j 126) (j:Int)
  rw[df (show ¬ (j:Int)<(j:Int) by omega)]at e
  exact .last e
 |k+1,j,h=>by
  have e:=Gw (i:Int) o lo cs (List.replicate j 126) (j:Int)
  rw[dt (show(j:Int)<(i:Int) by omega),show roomy 8 ((List.replicate j (126:Int)).length+[(126:Int)].length)=true from fe (by decide) (by rw[List.length_replicate];simp;omega),xB (by omega),bQ,<-List.replicate_succ']at e
  exact .more e (Mi i o lo cs hi k (j+1) (by omega))
theorem Mj(i lo:Int)(o:Nat)(cs:List (den bZ))(a:List Int)(ho:o<=1000): ∀ (k j:Nat),j+k=o->jQ rm (aX jb (i,(o:Int),lo,cs,a,List.replicate j (126:Int),(j:Int),())) 0 (aX fN (i,(o:Int),lo,cs,a,List.replicate o (126:Int),()))
 |0,j,h=>by
  have hj:j=o:=by omega
  subst hj
  have e:=Gx i (j:Int) lo cs a (List.replicate j 126) (j:Int)
  rw[df (show ¬ (j:Int)<(j:Int) by omega)]at e
  exact .last e
 |k+1,j,h=>by
  have e:=Gx i (o:Int) lo cs a (List.replicate j 126) (j:Int)
  rw[dt (show(j:Int)<(o:Int) by omega),show roomy 8 ((List.replicate j (126:Int)).length+[(126:Int)].length)=true from fe (by decide) (by rw[List.length_replicate];simp;omega),xB (by omega),bQ,<-List.replicate_succ']at e
  exact .more e (Mj i lo o cs a ho k (j+1) (by omega))
theorem abP(i o lo:Int)(cs:List (den bZ))(z:aL fM)(hz:z=iE rk jX fM (i,o,lo,cs,[],0,()))(y:aL jb)(hy:y=(z.1,z.2.1,z.2.2.1,z.2.2.2.1,z.2.2.2.2.1,[],0,()))(u:aL fN)(hu:u=iE rm jb fN y):(Qi (i,o,lo,cs,())).val=
 bK (uS rk jX fM (i,o,lo,cs,[],0,())) (bK (uS rm jb fN y) (bK (roomy 24 (([]:List (den bZ)).length+u.2.2.2.1.length)) (bK (roomy 24 ((app [] u.2.2.2.1).length+[((15:Int),(0:Int),(0:Int))].length))
  (some (aX xl ([(u.2.2.2.2.1,u.2.2.2.2.2.1)],[((-1:Int),(0:Int),u.1,u.2.1,u.2.2.1,app (app [] u.2.2.2.1) [((15:Int),(0:Int),(0:Int))],[])],())))))):=by
 subst hu;subst hy;subst hz
 show _=_
 kernel_rfl
theorem z1(i o:Nat)(lo:Int)(cs:List (den bZ))(hi:i<=1000)(ho:o<=1000)(hc:cs.length<=100000):Gq ((i:Int),(o:Int),lo,cs,())=true/\
 Gr ((i:Int),(o:Int),lo,cs,())=([(List.replicate i (126:Int),List.replicate o (126:Int))],[((-1:Int),(0:Int),(i:Int),(o:Int),lo,cs++[((15:Int),(0:Int),(0:Int))],[])],()):=by
 obtain⟨q1,q2⟩:=q7 (f:=rk) (ti:=jX) (to:=fM) (Mi i o lo cs hi i 0 (by omega))
 obtain⟨p1,p2⟩:=q7 (f:=rm) (ti:=jb) (to:=fN) (Mj i lo o cs (List.replicate i 126) ho o 0 (by omega))
 refine cZ (ao _) (ao _) ?_
 refine(abP i o lo cs _ q2.symm _ rfl _ p2.symm).trans ?_
 rw[show uS rk jX fM ((i:Int),(o:Int),lo,cs,[],0,())=true from q1]
 rw[show uS rm jb fN ((i:Int),(o:Int),lo,cs,List.replicate i (126:Int),[],0,())=true from p1]
 rw[show roomy 24 (([]:List (den bZ)).length+cs.length)=true from fe (by decide) (by simp;omega),show roomy 24 ((app [] cs).length+[((15:Int),(0:Int),(0:Int))].length)=true from fe (by decide) (by rw[bQ];simp;omega),bQ,bQ]
 rfl
end Go.Proofs.Vq

noncomputable section
namespace Go.Proofs.Vq
open Go.Ab Go.Ab.Lf
set_option maxRecDepth 100000
abbrev Mk(n i:Int):List (den bZ):=[((32:Int),i,(0:Int)),((34:Int),n+i,(0:Int)),((26:Int),(0:Int),(0:Int)),((32:Int),n+i,(0:Int))]
theorem Ml(xs:List Int)(k d n i:Int)(cs:List (den bZ)):(yU (aX l7 (xs,k,d,n,cs,i,()))).val=
 bif decide (i<n)then bK (roomy 24 (cs.length+[((32:Int),i,(0:Int)),((34:Int),bV .i64 n i,(0:Int)),((26:Int),(0:Int),(0:Int)),((32:Int),bV .i64 n i,(0:Int))].length))
  (some (.next (aX l7 (xs,k,d,n,app cs [((32:Int),i,(0:Int)),((34:Int),bV .i64 n i,(0:Int)),((26:Int),(0:Int),(0:Int)),((32:Int),bV .i64 n i,(0:Int))],bV .i64 i 1,()))))else some (.out 0 (aX gV (xs,k,d,n,cs,()))):=by
 show _=_
 kernel_rfl
def uW(n:Int):Nat->Nat->List (den bZ)
 |0,_=>[]
 |k+1,j=>Mk n (j:Int)++uW n k (j+1)
theorem lP(n:Int): ∀ k j,(uW n k j).length=4*k
 |0,_=>rfl
 |k+1,j=>by
  show(Mk n (j:Int)++uW n k (j+1)).length=_
  rw[List.length_append,lP n k (j+1)]
  show 4+4*k=4*(k+1)
  omega
theorem XT(xs:List Int)(a b:Int)(n:Nat)(hn:n<=1000): ∀ (k j:Nat) (cs:List (den bZ)),j+k=n->cs.length=4*j->jQ yU (aX l7 (xs,a,b,(n:Int),cs,(j:Int),())) 0 (aX gV (xs,a,b,(n:Int),cs++uW n k j,()))
 |0,j,cs,h,hc=>by
  have hj:j=n:=by omega
  subst hj
  have e:=Ml xs a b (j:Int) (j:Int) cs
  rw[df (show ¬ (j:Int)<(j:Int) by omega)]at e
  rw[show cs++uW (j:Int) 0 j=cs from List.append_nil _]
  exact .last e
 |k+1,j,cs,h,hc=>by
  have e:=Ml xs a b (n:Int) (j:Int) cs
  rw[show bV .i64 (n:Int) (j:Int)=(n:Int)+(j:Int)from wrap_i64 (by omega) (by omega),dt (show(j:Int)<(n:Int) by omega),xB (by omega),bQ,show roomy 24 (cs.length+(Mk (n:Int) (j:Int)).length)=true from fe (by decide) (by rw[hc];show 4*j+4<=_;omega)]at e
  have ih:=XT xs a b n hn k (j+1) (cs++Mk (n:Int) (j:Int)) (by omega) (by rw[List.length_append,hc];show 4*j+4=_;omega)
  rw[List.append_assoc]at ih
  exact .more e ih
end Go.Proofs.Vq

noncomputable section
namespace Go.Proofs.Vq
open Go.Ab Go.Ab.Lf
set_option maxRecDepth 100000
section
variable (g:Cg)
abbrev Gy(x:List Int)(n:Int):Option (List Pl):=
 let p:=Gr (n,1,0,[((32:Int),(0:Int),(0:Int)),((32:Int),(1:Int),(0:Int)),((32:Int),(2:Int),(0:Int)),((27:Int),(0:Int),(0:Int))],())
 let r:=m14 g (p.1,p.2.1,x,0,())
 bK (Gq (n,1,0,[((32:Int),(0:Int),(0:Int)),((32:Int),(1:Int),(0:Int)),((32:Int),(2:Int),(0:Int)),((27:Int),(0:Int),(0:Int))],())) (bK (GU g (p.1,p.2.1,x,0,())) (bK (cg 1 (x.length:Int)) (bK (cg 2 (x.length:Int)) (
  bif !decide (ou .u64 (x.getD (2:Int).toNat (bJ (Ty.int .u64))) 4294967296=0)then bK (cg 0 (x.length:Int)) (bK (GS (r.1,r.2.1,r.2.2.1,r.2.2.2.1,0,0,[x.getD (0:Int).toNat (bJ (Ty.int .u64))],0,())) (some (aX uV (m16 (r.1,r.2.1,r.2.2.1,r.2.2.2.1,0,0,[x.getD (0:Int).toNat (bJ (Ty.int .u64))],0,())))))
  else bK (GS (r.1,r.2.1,r.2.2.1,r.2.2.2.1,0,0,[x.getD (1:Int).toNat (bJ (Ty.int .u64))],0,())) (some (aX uV (m16 (r.1,r.2.1,r.2.2.1,r.2.2.2.1,0,0,[x.getD (1:Int).toNat (bJ (Ty.int .u64))],0,()))))))))
abbrev K8(x:List Int)(n:Int)(c:List (den bZ))(K D:Int):Option (List Pl):=
 let p:=Gr (n,aW .i64 n D,n,app c [((256:Int),K,dB .u64 D)],())
 let r:=m14 g (p.1,p.2.1,x,0,())
 let w:=app (app [] (List.take ((aW .i64 (aW .i64 n K) D).toNat - (0:Int).toNat) (List.drop (0:Int).toNat x))) (List.take ((x.length:Int).toNat - (aW .i64 n K).toNat) (List.drop (aW .i64 n K).toNat x))
 bK (roomy 24 (c.length+[((256:Int),K,dB .u64 D)].length)) (bK (Gq (n,aW .i64 n D,n,app c [((256:Int),K,dB .u64 D)],())) (bK (GU g (p.1,p.2.1,x,0,())) (bK (cF 0 (aW .i64 (aW .i64 n K) D) (x.length:Int)) (
 bK (roomy 8 (([]:List Int).length+(List.take ((aW .i64 (aW .i64 n K) D).toNat - (0:Int).toNat) (List.drop (0:Int).toNat x)).length)) (bK (cF (aW .i64 n K) (x.length:Int) (x.length:Int)) (
 bK (roomy 8 ((app [] (List.take ((aW .i64 (aW .i64 n K) D).toNat - (0:Int).toNat) (List.drop (0:Int).toNat x))).length+(List.take ((x.length:Int).toNat - (aW .i64 n K).toNat) (List.drop (aW .i64 n K).toNat x)).length)) (
 bK (GS (r.1,r.2.1,r.2.2.1,r.2.2.2.1,0,0,w,0,())) (bif !(m16 (r.1,r.2.1,r.2.2.1,r.2.2.2.1,0,0,w,0,())).1 then some (aX uV (false,()))else bif decide (n<3)then some (aX uV (true,()))else Gy g x n))))))))
theorem eq4(xs:List Int)(ke dr:Int)(c:aL l7)(hc:c=(List.take ((min (xs.length:Int) 40).toNat - (0:Int).toNat) (List.drop (0:Int).toNat xs),ke,dr,min (xs.length:Int) 40,[],0,()))(z:aL gV)(hz:z=iE yU l7 gV c):
 (t4 g (xs,ke,dr,())).val=bif !true then some (aX uV (false,()))else bK (cF 0 (min (xs.length:Int) 40) (xs.length:Int)) (bK (uS yU l7 gV c) (
  bif decide ((0:Int)<z.2.2.2.1)then bK (!decide (bV .i64 z.2.2.2.1 1=0)) (bK (!decide (bV .i64 (aW .i64 z.2.2.2.1 (ou .i64 (dB .i64 z.2.1) (bV .i64 z.2.2.2.1 1))) 1=0))
   (K8 g z.1 z.2.2.2.1 z.2.2.2.2.1 (ou .i64 (dB .i64 z.2.1) (bV .i64 z.2.2.2.1 1)) (ou .i64 (dB .i64 z.2.2.1) (bV .i64 (aW .i64 z.2.2.2.1 (ou .i64 (dB .i64 z.2.1) (bV .i64 z.2.2.2.1 1))) 1))))
  else K8 g z.1 z.2.2.2.1 z.2.2.2.2.1 0 0)):=by
 subst hz;subst hc
 show _=_
 kernel_rfl
end
end Go.Proofs.Vq
