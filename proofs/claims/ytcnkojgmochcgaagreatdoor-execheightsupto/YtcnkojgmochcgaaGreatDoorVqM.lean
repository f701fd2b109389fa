import Derived.Test.YtcnkojgmochcgaaGreatDoorVbQ
noncomputable section
namespace Go.Proofs.Vq
open Go.Ab Go.Ab.Lf
set_option maxRecDepth 100000
theorem aam(x:ks)(a b:Int):(t232 (aJ [i64,i64] x (a,b,()))).val=
 bif bif decide ((x.4.length:Int)<a)then true else decide (1048576<bL .i64 (aV .i64 ((x.4.length:Int)) a) b)then
  bif decide (x.1.5=0)then
   some (aH wa (false,aJ [] ({x with r:={x.r with err:=40}}) ()))
  else
  some (aH wa (false,aJ [] x ()))
 else
 some (aH wa (true,aJ [] x ())):=by kernel_rfl
theorem Bc(x:ks)(o a n:Int):(t307 (aJ [i64,i64,u64] x (o,a,n,()))).val=
 bif decide (o=32)then
  bJ (ij (aJ [i64,i64] x (0,1,()))) (
  bif (aF (aJ [i64,i64] x (0,1,()))).1 then
   bJ (bF a (Int.ofNat (List.length (bT (aF (aJ [i64,i64] x (0,1,()))).2).lo))) (
   bJ (roomy 8 (List.length (bT (aF (aJ [i64,i64] x (0,1,()))).2).st+[List.getD (bT (aF (aJ [i64,i64] x (0,1,()))).2).lo a.toNat (aE (Ty.int .u64))].length)) (
   some (aH iI (aJ [] ({(bT (aF (aJ [i64,i64] x (0,1,()))).2)with st:=(app (bT (aF (aJ [i64,i64] x (0,1,()))).2).st [List.getD (bT (aF (aJ [i64,i64] x (0,1,()))).2).lo a.toNat (aE (Ty.int .u64))])}) ()))))
  else
  some (aH iI (aJ [] (bT (aF (aJ [i64,i64] x (0,1,()))).2) ())))
 else
 bif decide (o=33)then
  bJ (ij (aJ [i64,i64] x (1,0,()))) (
  bif (aF (aJ [i64,i64] x (1,0,()))).1 then
   bJ (bF (aV .i64 (Int.ofNat (List.length (bT (aF (aJ [i64,i64] x (1,0,()))).2).st)) (1)) (Int.ofNat (List.length (bT (aF (aJ [i64,i64] x (1,0,()))).2).st))) (
   bJ (dy (0) (aV .i64 (Int.ofNat (List.length (bT (aF (aJ [i64,i64] x (1,0,()))).2).st)) (1)) (Int.ofNat (List.length (bT (aF (aJ [i64,i64] x (1,0,()))).2).st))) (
   bJ (decide (a=a)) (
   bJ (bF a (Int.ofNat (List.length (bT (aF (aJ [i64,i64] x (1,0,()))).2).lo))) (
   some (aH iI (aJ [] ({(bT (aF (aJ [i64,i64] x (1,0,()))).2)with st:=(List.take ((aV .i64 (Int.ofNat (List.length (bT (aF (aJ [i64,i64] x (1,0,()))).2).st)) (1)).toNat - (0:Int).toNat) (List.drop (0:Int).toNat (bT (aF (aJ [i64,i64] x (1,0,()))).2).st)),lo:=(List.set (bT (aF (aJ [i64,i64] x (1,0,()))).2).lo a.toNat (List.getD (bT (aF (aJ [i64,i64] x (1,0,()))).2).st (aV .i64 (Int.ofNat (List.length (bT (aF (aJ [i64,i64] x (1,0,()))).2).st)) (1)).toNat (aE (Ty.int .u64))))}) ()))))))
  else
  some (aH iI (aJ [] (bT (aF (aJ [i64,i64] x (1,0,()))).2) ())))
 else
 bif decide (o=34)then
  bJ (ij (aJ [i64,i64] x (1,1,()))) (
  bif (aF (aJ [i64,i64] x (1,1,()))).1 then
   bJ (bF (aV .i64 (Int.ofNat (List.length (bT (aF (aJ [i64,i64] x (1,1,()))).2).st)) (1)) (Int.ofNat (List.length (bT (aF (aJ [i64,i64] x (1,1,()))).2).st))) (
   bJ (bF a (Int.ofNat (List.length (bT (aF (aJ [i64,i64] x (1,1,()))).2).lo))) (
   some (aH iI (aJ [] ({(bT (aF (aJ [i64,i64] x (1,1,()))).2)with lo:=(List.set (bT (aF (aJ [i64,i64] x (1,1,()))).2).lo a.toNat (List.getD (bT (aF (aJ [i64,i64] x (1,1,()))).2).st (aV .i64 (Int.ofNat (List.length (bT (aF (aJ [i64,i64] x (1,1,()))).2).st)) (1)).toNat (aE (Ty.int .u64))))}) ()))))
  else
  some (aH iI (aJ [] (bT (aF (aJ [i64,i64] x (1,1,()))).2) ())))
 else
 bif decide (o=35)then
  bif bif decide (a<0)then true else decide ((x.1.m.3.1.length:Int)<=a)then
   bif decide (x.1.5=0)then
    some (aH iI (aJ [] ({x with r:={x.r with err:=40}}) ()))
   else
   some (aH iI (aJ [] x ()))
  else
  bJ (bF a ((x.1.m.3.1.length:Int))) (
  bJ (ij (aJ [i64,i64] x (0,1,()))) (
  bif (aF (aJ [i64,i64] x (0,1,()))).1 then
   bJ (roomy 8 (List.length (bT (aF (aJ [i64,i64] x (0,1,()))).2).st+[x.1.m.3.1.getD a.toNat (aE (Ty.int .u64))].length)) (
   some (aH iI (aJ [] ({(bT (aF (aJ [i64,i64] x (0,1,()))).2)with st:=(app (bT (aF (aJ [i64,i64] x (0,1,()))).2).st [x.1.m.3.1.getD a.toNat (aE (Ty.int .u64))])}) ())))
  else
  some (aH iI (aJ [] (bT (aF (aJ [i64,i64] x (0,1,()))).2) ()))))
 else
 bif decide (o=36)then
  bif bif decide (a<0)then true else decide ((x.1.m.3.1.length:Int)<=a)then
   bif decide (x.1.5=0)then
    some (aH iI (aJ [] ({x with r:={x.r with err:=40}}) ()))
   else
   some (aH iI (aJ [] x ()))
  else
  bJ (bF a ((x.1.m.3.1.length:Int))) (
  bJ (ij (aJ [i64,i64] x (1,0,()))) (
  bif (aF (aJ [i64,i64] x (1,0,()))).1 then
   bJ (bF (aV .i64 (Int.ofNat (List.length (bT (aF (aJ [i64,i64] x (1,0,()))).2).st)) (1)) (Int.ofNat (List.length (bT (aF (aJ [i64,i64] x (1,0,()))).2).st))) (
   bJ (dy (0) (aV .i64 (Int.ofNat (List.length (bT (aF (aJ [i64,i64] x (1,0,()))).2).st)) (1)) (Int.ofNat (List.length (bT (aF (aJ [i64,i64] x (1,0,()))).2).st))) (
   bJ (decide (a=a)) (
   bif bif decide (a<0)then true else decide (Int.ofNat (List.length (bT (aF (aJ [i64,i64] x (1,0,()))).2).r.m.s.gf)<=a)then
    some (aH iI (aJ [] ({(bT (aF (aJ [i64,i64] x (1,0,()))).2)with st:=(List.take ((aV .i64 (Int.ofNat (List.length (bT (aF (aJ [i64,i64] x (1,0,()))).2).st)) (1)).toNat - (0:Int).toNat) (List.drop (0:Int).toNat (bT (aF (aJ [i64,i64] x (1,0,()))).2).st))}) ()))
   else
   bJ (bF a (Int.ofNat (List.length (bT (aF (aJ [i64,i64] x (1,0,()))).2).r.m.s.small))) (
   bif decide (List.getD (bT (aF (aJ [i64,i64] x (1,0,()))).2).r.m.s.small a.toNat (aE (Ty.int .i64))=1)then
    bJ (bF a (Int.ofNat (List.length (bT (aF (aJ [i64,i64] x (1,0,()))).2).r.m.s.gf))) (
    some (aH iI (aJ [] ({(bT (aF (aJ [i64,i64] x (1,0,()))).2)with r:={(bT (aF (aJ [i64,i64] x (1,0,()))).2).r with m:={(bT (aF (aJ [i64,i64] x (1,0,()))).2).r.m with s:={(bT (aF (aJ [i64,i64] x (1,0,()))).2).r.m.s with gf:=(List.set (bT (aF (aJ [i64,i64] x (1,0,()))).2).r.m.s.gf a.toNat (dm .u64 (List.getD (bT (aF (aJ [i64,i64] x (1,0,()))).2).st (aV .i64 (Int.ofNat (List.length (bT (aF (aJ [i64,i64] x (1,0,()))).2).st)) (1)).toNat (aE (Ty.int .u64))) (4294967295)))}}},st:=(List.take ((aV .i64 (Int.ofNat (List.length (bT (aF (aJ [i64,i64] x (1,0,()))).2).st)) (1)).toNat - (0:Int).toNat) (List.drop (0:Int).toNat (bT (aF (aJ [i64,i64] x (1,0,()))).2).st))}) ())))
   else
   bJ (bF a (Int.ofNat (List.length (bT (aF (aJ [i64,i64] x (1,0,()))).2).r.m.s.gf))) (
   some (aH iI (aJ [] ({(bT (aF (aJ [i64,i64] x (1,0,()))).2)with r:={(bT (aF (aJ [i64,i64] x (1,0,()))).2).r with m:={(bT (aF (aJ [i64,i64] x (1,0,()))).2).r.m with s:={(bT (aF (aJ [i64,i64] x (1,0,()))).2).r.m.s with gf:=(List.set (bT (aF (aJ [i64,i64] x (1,0,()))).2).r.m.s.gf a.toNat (List.getD (bT (aF (aJ [i64,i64] x (1,0,()))).2).st (aV .i64 (Int.ofNat (List.length (bT (aF (aJ [i64,i64] x (1,0,()))).2).st)) (1)).toNat (aE (Ty.int .u64))))}}},st:=(List.take ((aV .i64 (Int.ofNat (List.length (bT (aF (aJ [i64,i64] x (1,0,()))).2).st)) (1)).toNat - (0:Int).toNat) (List.drop (0:Int).toNat (bT (aF (aJ [i64,i64] x (1,0,()))).2).st))}) ())))))))
  else
  some (aH iI (aJ [] (bT (aF (aJ [i64,i64] x (1,0,()))).2) ()))))
 else
 some (aH iI (aJ [] x ())):=by kernel_rfl
theorem ql(x:ks)(o a n:Int):(t236 (aJ [i64,i64,u64] x (o,a,n,()))).val=
 bif decide (o=257)then
  bif decide (x.1.2=0)then
   bif decide (x.1.5=0)then
    some (aH fo (aJ [] ({x with r:={x.r with err:=27}}) ()))
   else
   some (aH fo (aJ [] x ()))
  else
  some (aH fo (aJ [] ({x with r:={x.r with fuel:=(aV .i64 x.1.2 (1))}}) ()))
 else
 bif decide (o=256)then
  bJ (ij (aJ [i64,i64] x (bL .i64 a (ao .i64 n),a,()))) (
  bif (aF (aJ [i64,i64] x (bL .i64 a (ao .i64 n),a,()))).1 then
   bJ (decide (0<=(aV .i64 (aV .i64 (List.length (bT (aF (aJ [i64,i64] x (bL .i64 a (ao .i64 n),a,()))).2).st:Int) a) (ao .i64 n))/\(aV .i64 (aV .i64 (List.length (bT (aF (aJ [i64,i64] x (bL .i64 a (ao .i64 n),a,()))).2).st:Int) a) (ao .i64 n))<=(aV .i64 (List.length (bT (aF (aJ [i64,i64] x (bL .i64 a (ao .i64 n),a,()))).2).st:Int) a)/\(aV .i64 (List.length (bT (aF (aJ [i64,i64] x (bL .i64 a (ao .i64 n),a,()))).2).st:Int) a)<=(List.length (bT (aF (aJ [i64,i64] x (bL .i64 a (ao .i64 n),a,()))).2).st:Int)/\List.length (bT (aF (aJ [i64,i64] x (bL .i64 a (ao .i64 n),a,()))).2).st<=1099511627776)) (
   some (aH fo (aJ [] ({(bT (aF (aJ [i64,i64] x (bL .i64 a (ao .i64 n),a,()))).2)with st:=app (List.take (aV .i64 (aV .i64 (List.length (bT (aF (aJ [i64,i64] x (bL .i64 a (ao .i64 n),a,()))).2).st:Int) a) (ao .i64 n)).toNat (bT (aF (aJ [i64,i64] x (bL .i64 a (ao .i64 n),a,()))).2).st) (List.drop (aV .i64 (List.length (bT (aF (aJ [i64,i64] x (bL .i64 a (ao .i64 n),a,()))).2).st:Int) a).toNat (bT (aF (aJ [i64,i64] x (bL .i64 a (ao .i64 n),a,()))).2).st)}) ())))
  else
  some (aH fo (aJ [] (bT (aF (aJ [i64,i64] x (bL .i64 a (ao .i64 n),a,()))).2) ())))
 else
 bif decide (o=26)then
  bJ (ij (aJ [i64,i64] x (1,0,()))) (
  bif (aF (aJ [i64,i64] x (1,0,()))).1 then
   bJ (bF (aV .i64 (Int.ofNat (List.length (bT (aF (aJ [i64,i64] x (1,0,()))).2).st)) (1)) (Int.ofNat (List.length (bT (aF (aJ [i64,i64] x (1,0,()))).2).st))) (
   bJ (dy (0) (aV .i64 (Int.ofNat (List.length (bT (aF (aJ [i64,i64] x (1,0,()))).2).st)) (1)) (Int.ofNat (List.length (bT (aF (aJ [i64,i64] x (1,0,()))).2).st))) (
   some (aH fo (aJ [] ({(bT (aF (aJ [i64,i64] x (1,0,()))).2)with st:=(List.take ((aV .i64 (Int.ofNat (List.length (bT (aF (aJ [i64,i64] x (1,0,()))).2).st)) (1)).toNat - (0:Int).toNat) (List.drop (0:Int).toNat (bT (aF (aJ [i64,i64] x (1,0,()))).2).st))}) ()))))
  else
  some (aH fo (aJ [] (bT (aF (aJ [i64,i64] x (1,0,()))).2) ())))
 else
 bif decide (o=27)then
  bJ (ij (aJ [i64,i64] x (3,1,()))) (
  bif (aF (aJ [i64,i64] x (3,1,()))).1 then
   bJ (bF (aV .i64 (Int.ofNat (List.length (bT (aF (aJ [i64,i64] x (3,1,()))).2).st)) (1)) (Int.ofNat (List.length (bT (aF (aJ [i64,i64] x (3,1,()))).2).st))) (
   bJ (dy (0) (aV .i64 (Int.ofNat (List.length (bT (aF (aJ [i64,i64] x (3,1,()))).2).st)) (1)) (Int.ofNat (List.length (bT (aF (aJ [i64,i64] x (3,1,()))).2).st))) (
   bJ (bF (aV .i64 (Int.ofNat ((aV .i64 (Int.ofNat (List.length (bT (aF (aJ [i64,i64] x (3,1,()))).2).st)) (1)).toNat - (0:Int).toNat)) (1)) (Int.ofNat ((aV .i64 (Int.ofNat (List.length (bT (aF (aJ [i64,i64] x (3,1,()))).2).st)) (1)).toNat - (0:Int).toNat))) (
   bJ (dy (0) (aV .i64 (Int.ofNat ((aV .i64 (Int.ofNat (List.length (bT (aF (aJ [i64,i64] x (3,1,()))).2).st)) (1)).toNat - (0:Int).toNat)) (1)) (Int.ofNat ((aV .i64 (Int.ofNat (List.length (bT (aF (aJ [i64,i64] x (3,1,()))).2).st)) (1)).toNat - (0:Int).toNat))) (
   bJ (bF (aV .i64 (Int.ofNat ((aV .i64 (Int.ofNat ((aV .i64 (Int.ofNat (List.length (bT (aF (aJ [i64,i64] x (3,1,()))).2).st)) (1)).toNat - (0:Int).toNat)) (1)).toNat - (0:Int).toNat)) (1)) (Int.ofNat ((aV .i64 (Int.ofNat ((aV .i64 (Int.ofNat (List.length (bT (aF (aJ [i64,i64] x (3,1,()))).2).st)) (1)).toNat - (0:Int).toNat)) (1)).toNat - (0:Int).toNat))) (
   bJ (dy (0) (aV .i64 (Int.ofNat ((aV .i64 (Int.ofNat ((aV .i64 (Int.ofNat (List.length (bT (aF (aJ [i64,i64] x (3,1,()))).2).st)) (1)).toNat - (0:Int).toNat)) (1)).toNat - (0:Int).toNat)) (1)) (Int.ofNat ((aV .i64 (Int.ofNat ((aV .i64 (Int.ofNat (List.length (bT (aF (aJ [i64,i64] x (3,1,()))).2).st)) (1)).toNat - (0:Int).toNat)) (1)).toNat - (0:Int).toNat))) (
   bif decide (ao .u32 (List.getD (bT (aF (aJ [i64,i64] x (3,1,()))).2).st (aV .i64 (Int.ofNat (List.length (bT (aF (aJ [i64,i64] x (3,1,()))).2).st)) (1)).toNat (aE (Ty.int .u64)))=0)then
    bJ (roomy 8 ((List.take ((aV .i64 (Int.ofNat ((aV .i64 (Int.ofNat ((aV .i64 (Int.ofNat (List.length (bT (aF (aJ [i64,i64] x (3,1,()))).2).st)) (1)).toNat - (0:Int).toNat)) (1)).toNat - (0:Int).toNat)) (1)).toNat - (0:Int).toNat) (List.drop ((0:Int).toNat+(0:Int).toNat+(0:Int).toNat) (bT (aF (aJ [i64,i64] x (3,1,()))).2).st)).length+[List.getD (bT (aF (aJ [i64,i64] x (3,1,()))).2).st ((0:Int).toNat+(aV .i64 (Int.ofNat ((aV .i64 (Int.ofNat (List.length (bT (aF (aJ [i64,i64] x (3,1,()))).2).st)) (1)).toNat - (0:Int).toNat)) (1)).toNat) (aE (Ty.int .u64))].length)) (
    some (aH fo (aJ [] ({(bT (aF (aJ [i64,i64] x (3,1,()))).2)with st:=(app (List.take ((aV .i64 (Int.ofNat ((aV .i64 (Int.ofNat ((aV .i64 (Int.ofNat (List.length (bT (aF (aJ [i64,i64] x (3,1,()))).2).st)) (1)).toNat - (0:Int).toNat)) (1)).toNat - (0:Int).toNat)) (1)).toNat - (0:Int).toNat) (List.drop ((0:Int).toNat+(0:Int).toNat+(0:Int).toNat) (bT (aF (aJ [i64,i64] x (3,1,()))).2).st)) [List.getD (bT (aF (aJ [i64,i64] x (3,1,()))).2).st ((0:Int).toNat+(aV .i64 (Int.ofNat ((aV .i64 (Int.ofNat (List.length (bT (aF (aJ [i64,i64] x (3,1,()))).2).st)) (1)).toNat - (0:Int).toNat)) (1)).toNat) (aE (Ty.int .u64))])}) ())))
   else
   bJ (roomy 8 ((List.take ((aV .i64 (Int.ofNat ((aV .i64 (Int.ofNat ((aV .i64 (Int.ofNat (List.length (bT (aF (aJ [i64,i64] x (3,1,()))).2).st)) (1)).toNat - (0:Int).toNat)) (1)).toNat - (0:Int).toNat)) (1)).toNat - (0:Int).toNat) (List.drop ((0:Int).toNat+(0:Int).toNat+(0:Int).toNat) (bT (aF (aJ [i64,i64] x (3,1,()))).2).st)).length+[List.getD (bT (aF (aJ [i64,i64] x (3,1,()))).2).st ((0:Int).toNat+(0:Int).toNat+(aV .i64 (Int.ofNat ((aV .i64 (Int.ofNat ((aV .i64 (Int.ofNat (List.length (bT (aF (aJ [i64,i64] x (3,1,()))).2).st)) (1)).toNat - (0:Int).toNat)) (1)).toNat - (0:Int).toNat)) (1)).toNat) (aE (Ty.int .u64))].length)) (
   some (aH fo (aJ [] ({(bT (aF (aJ [i64,i64] x (3,1,()))).2)with st:=(app (List.take ((aV .i64 (Int.ofNat ((aV .i64 (Int.ofNat ((aV .i64 (Int.ofNat (List.length (bT (aF (aJ [i64,i64] x (3,1,()))).2).st)) (1)).toNat - (0:Int).toNat)) (1)).toNat - (0:Int).toNat)) (1)).toNat - (0:Int).toNat) (List.drop ((0:Int).toNat+(0:Int).toNat+(0:Int).toNat) (bT (aF (aJ [i64,i64] x (3,1,()))).2).st)) [List.getD (bT (aF (aJ [i64,i64] x (3,1,()))).2).st ((0:Int).toNat+(0:Int).toNat+(aV .i64 (Int.ofNat ((aV .i64 (Int.ofNat ((aV .i64 (Int.ofNat (List.length (bT (aF (aJ [i64,i64] x (3,1,()))).2).st)) (1)).toNat - (0:Int).toNat)) (1)).toNat - (0:Int).toNat)) (1)).toNat) (aE (Ty.int .u64))])}) ())))))))))
  else
  some (aH fo (aJ [] (bT (aF (aJ [i64,i64] x (3,1,()))).2) ())))
 else
 bif decide (o=66)then
  bJ (ij (aJ [i64,i64] x (0,1,()))) (
  bif (aF (aJ [i64,i64] x (0,1,()))).1 then
   bJ (roomy 8 (List.length (bT (aF (aJ [i64,i64] x (0,1,()))).2).st+[n].length)) (
   some (aH fo (aJ [] ({(bT (aF (aJ [i64,i64] x (0,1,()))).2)with st:=(app (bT (aF (aJ [i64,i64] x (0,1,()))).2).st [n])}) ())))
  else
  some (aH fo (aJ [] (bT (aF (aJ [i64,i64] x (0,1,()))).2) ())))
 else
 bif bif decide (32<=o)then decide (o<=36)else false then
  bJ (Ur (aJ [i64,i64,u64] x (o,a,n,()))) (
  some (aH fo (aJ [] (bT (Us (aJ [i64,i64,u64] x (o,a,n,())))) ())))
 else
 bif bif decide (40<=o)then decide (o<=64)else false then
  bJ (Ut (aJ [i64,i64,u64] x (o,a,n,()))) (
  some (aH fo (aJ [] (bT (Uu (aJ [i64,i64,u64] x (o,a,n,())))) ())))
 else
 bJ (CV (o,())) (
 bif decide ((m11 (o,())).1=1)then
  bJ (ij (aJ [i64,i64] x (1,1,()))) (
  bif (aF (aJ [i64,i64] x (1,1,()))).1 then
   bJ (bF (aV .i64 (Int.ofNat (List.length (bT (aF (aJ [i64,i64] x (1,1,()))).2).st)) (1)) (Int.ofNat (List.length (bT (aF (aJ [i64,i64] x (1,1,()))).2).st))) (
   bJ (dy (0) (aV .i64 (Int.ofNat (List.length (bT (aF (aJ [i64,i64] x (1,1,()))).2).st)) (1)) (Int.ofNat (List.length (bT (aF (aJ [i64,i64] x (1,1,()))).2).st))) (
   bJ (decide (o=o)) (
   bJ (Up (o,List.getD (bT (aF (aJ [i64,i64] x (1,1,()))).2).st (aV .i64 (Int.ofNat (List.length (bT (aF (aJ [i64,i64] x (1,1,()))).2).st)) (1)).toNat (aE (Ty.int .u64)),())) (
   bif bif !decide ((m13 (o,List.getD (bT (aF (aJ [i64,i64] x (1,1,()))).2).st (aV .i64 (Int.ofNat (List.length (bT (aF (aJ [i64,i64] x (1,1,()))).2).st)) (1)).toNat (aE (Ty.int .u64)),())).2.1=0)then decide ((bT (aF (aJ [i64,i64] x (1,1,()))).2).r.err=0)else false then
    bJ (roomy 8 ((List.take ((aV .i64 (Int.ofNat (List.length (bT (aF (aJ [i64,i64] x (1,1,()))).2).st)) (1)).toNat - (0:Int).toNat) (List.drop (0:Int).toNat (bT (aF (aJ [i64,i64] x (1,1,()))).2).st)).length+[(m13 (o,List.getD (bT (aF (aJ [i64,i64] x (1,1,()))).2).st (aV .i64 (Int.ofNat (List.length (bT (aF (aJ [i64,i64] x (1,1,()))).2).st)) (1)).toNat (aE (Ty.int .u64)),())).1].length)) (
    some (aH fo (aJ [] ({(bT (aF (aJ [i64,i64] x (1,1,()))).2)with r:={(bT (aF (aJ [i64,i64] x (1,1,()))).2).r with err:=(m13 (o,List.getD (bT (aF (aJ [i64,i64] x (1,1,()))).2).st (aV .i64 (Int.ofNat (List.length (bT (aF (aJ [i64,i64] x (1,1,()))).2).st)) (1)).toNat (aE (Ty.int .u64)),())).2.1},st:=(app (List.take ((aV .i64 (Int.ofNat (List.length (bT (aF (aJ [i64,i64] x (1,1,()))).2).st)) (1)).toNat - (0:Int).toNat) (List.drop (0:Int).toNat (bT (aF (aJ [i64,i64] x (1,1,()))).2).st)) [(m13 (o,List.getD (bT (aF (aJ [i64,i64] x (1,1,()))).2).st (aV .i64 (Int.ofNat (List.length (bT (aF (aJ [i64,i64] x (1,1,()))).2).st)) (1)).toNat (aE (Ty.int .u64)),())).1])}) ())))
   else
   bJ (roomy 8 ((List.take ((aV .i64 (Int.ofNat (List.length (bT (aF (aJ [i64,i64] x (1,1,()))).2).st)) (1)).toNat - (0:Int).toNat) (List.drop (0:Int).toNat (bT (aF (aJ [i64,i64] x (1,1,()))).2).st)).length+[(m13 (o,List.getD (bT (aF (aJ [i64,i64] x (1,1,()))).2).st (aV .i64 (Int.ofNat (List.length (bT (aF (aJ [i64,i64] x (1,1,()))).2).st)) (1)).toNat (aE (Ty.int .u64)),())).1].length)) (
   some (aH fo (aJ [] ({(bT (aF (aJ [i64,i64] x (1,1,()))).2)with st:=(app (List.take ((aV .i64 (Int.ofNat (List.length (bT (aF (aJ [i64,i64] x (1,1,()))).2).st)) (1)).toNat - (0:Int).toNat) (List.drop (0:Int).toNat (bT (aF (aJ [i64,i64] x (1,1,()))).2).st)) [(m13 (o,List.getD (bT (aF (aJ [i64,i64] x (1,1,()))).2).st (aV .i64 (Int.ofNat (List.length (bT (aF (aJ [i64,i64] x (1,1,()))).2).st)) (1)).toNat (aE (Ty.int .u64)),())).1])}) ())))))))
  else
  some (aH fo (aJ [] (bT (aF (aJ [i64,i64] x (1,1,()))).2) ())))
 else
 bJ (ij (aJ [i64,i64] x (2,1,()))) (
 bif (aF (aJ [i64,i64] x (2,1,()))).1 then
  bJ (bF (aV .i64 (Int.ofNat (List.length (bT (aF (aJ [i64,i64] x (2,1,()))).2).st)) (1)) (Int.ofNat (List.length (bT (aF (aJ [i64,i64] x (2,1,()))).2).st))) (
  bJ (dy (0) (aV .i64 (Int.ofNat (List.length (bT (aF (aJ [i64,i64] x (2,1,()))).2).st)) (1)) (Int.ofNat (List.length (bT (aF (aJ [i64,i64] x (2,1,()))).2).st))) (
  bJ (bF (aV .i64 (Int.ofNat ((aV .i64 (Int.ofNat (List.length (bT (aF (aJ [i64,i64] x (2,1,()))).2).st)) (1)).toNat - (0:Int).toNat)) (1)) (Int.ofNat ((aV .i64 (Int.ofNat (List.length (bT (aF (aJ [i64,i64] x (2,1,()))).2).st)) (1)).toNat - (0:Int).toNat))) (
  bJ (dy (0) (aV .i64 (Int.ofNat ((aV .i64 (Int.ofNat (List.length (bT (aF (aJ [i64,i64] x (2,1,()))).2).st)) (1)).toNat - (0:Int).toNat)) (1)) (Int.ofNat ((aV .i64 (Int.ofNat (List.length (bT (aF (aJ [i64,i64] x (2,1,()))).2).st)) (1)).toNat - (0:Int).toNat))) (
  bJ (Ui (o,List.getD (bT (aF (aJ [i64,i64] x (2,1,()))).2).st ((0:Int).toNat+(aV .i64 (Int.ofNat ((aV .i64 (Int.ofNat (List.length (bT (aF (aJ [i64,i64] x (2,1,()))).2).st)) (1)).toNat - (0:Int).toNat)) (1)).toNat) (aE (Ty.int .u64)),List.getD (bT (aF (aJ [i64,i64] x (2,1,()))).2).st (aV .i64 (Int.ofNat (List.length (bT (aF (aJ [i64,i64] x (2,1,()))).2).st)) (1)).toNat (aE (Ty.int .u64)),())) (
  bif bif !decide ((m12 (o,List.getD (bT (aF (aJ [i64,i64] x (2,1,()))).2).st ((0:Int).toNat+(aV .i64 (Int.ofNat ((aV .i64 (Int.ofNat (List.length (bT (aF (aJ [i64,i64] x (2,1,()))).2).st)) (1)).toNat - (0:Int).toNat)) (1)).toNat) (aE (Ty.int .u64)),List.getD (bT (aF (aJ [i64,i64] x (2,1,()))).2).st (aV .i64 (Int.ofNat (List.length (bT (aF (aJ [i64,i64] x (2,1,()))).2).st)) (1)).toNat (aE (Ty.int .u64)),())).2.1=0)then decide ((bT (aF (aJ [i64,i64] x (2,1,()))).2).r.err=0)else false then
   bJ (roomy 8 ((List.take ((aV .i64 (Int.ofNat ((aV .i64 (Int.ofNat (List.length (bT (aF (aJ [i64,i64] x (2,1,()))).2).st)) (1)).toNat - (0:Int).toNat)) (1)).toNat - (0:Int).toNat) (List.drop ((0:Int).toNat+(0:Int).toNat) (bT (aF (aJ [i64,i64] x (2,1,()))).2).st)).length+[(m12 (o,List.getD (bT (aF (aJ [i64,i64] x (2,1,()))).2).st ((0:Int).toNat+(aV .i64 (Int.ofNat ((aV .i64 (Int.ofNat (List.length (bT (aF (aJ [i64,i64] x (2,1,()))).2).st)) (1)).toNat - (0:Int).toNat)) (1)).toNat) (aE (Ty.int .u64)),List.getD (bT (aF (aJ [i64,i64] x (2,1,()))).2).st (aV .i64 (Int.ofNat (List.length (bT (aF (aJ [i64,i64] x (2,1,()))).2).st)) (1)).toNat (aE (Ty.int .u64)),())).1].length)) (
   some (aH fo (aJ [] ({(bT (aF (aJ [i64,i64] x (2,1,()))).2)with r:={(bT (aF (aJ [i64,i64] x (2,1,()))).2).r with err:=(m12 (o,List.getD (bT (aF (aJ [i64,i64] x (2,1,()))).2).st ((0:Int).toNat+(aV .i64 (Int.ofNat ((aV .i64 (Int.ofNat (List.length (bT (aF (aJ [i64,i64] x (2,1,()))).2).st)) (1)).toNat - (0:Int).toNat)) (1)).toNat) (aE (Ty.int .u64)),List.getD (bT (aF (aJ [i64,i64] x (2,1,()))).2).st (aV .i64 (Int.ofNat (List.length (bT (aF (aJ [i64,i64] x (2,1,()))).2).st)) (1)).toNat (aE (Ty.int .u64)),())).2.1},st:=(app (List.take ((aV .i64 (Int.ofNat ((aV .i64 (Int.ofNat (List.length (bT (aF (aJ [i64,i64] x (2,1,()))).2).st)) (1)).toNat - (0:Int).toNat)) (1)).toNat - (0:Int).toNat) (List.drop ((0:Int).toNat+(0:Int).toNat) (bT (aF (aJ [i64,i64] x (2,1,()))).2).st)) [(m12 (o,List.getD (bT (aF (aJ [i64,i64] x (2,1,()))).2).st ((0:Int).toNat+(aV .i64 (Int.ofNat ((aV .i64 (Int.ofNat (List.length (bT (aF (aJ [i64,i64] x (2,1,()))).2).st)) (1)).toNat - (0:Int).toNat)) (1)).toNat) (aE (Ty.int .u64)),List.getD (bT (aF (aJ [i64,i64] x (2,1,()))).2).st (aV .i64 (Int.ofNat (List.length (bT (aF (aJ [i64,i64] x (2,1,()))).2).st)) (1)).toNat (aE (Ty.int .u64)),())).1])}) ())))
  else
  bJ (roomy 8 ((List.take ((aV .i64 (Int.ofNat ((aV .i64 (Int.ofNat (List.length (bT (aF (aJ [i64,i64] x (2,1,()))).2).st)) (1)).toNat - (0:Int).toNat)) (1)).toNat - (0:Int).toNat) (List.drop ((0:Int).toNat+(0:Int).toNat) (bT (aF (aJ [i64,i64] x (2,1,()))).2).st)).length+[(m12 (o,List.getD (bT (aF (aJ [i64,i64] x (2,1,()))).2).st ((0:Int).toNat+(aV .i64 (Int.ofNat ((aV .i64 (Int.ofNat (List.length (bT (aF (aJ [i64,i64] x (2,1,()))).2).st)) (1)).toNat - (0:Int).toNat)) (1)).toNat) (aE (Ty.int .u64)),List.getD (bT (aF (aJ [i64,i64] x (2,1,()))).2).st (aV .i64 (Int.ofNat (List.length (bT (aF (aJ [i64,i64] x (2,1,()))).2).st)) (1)).toNat (aE (Ty.int .u64)),())).1].length)) (
  some (aH fo (aJ [] ({(bT (aF (aJ [i64,i64] x (2,1,()))).2)with st:=(app (List.take ((aV .i64 (Int.ofNat ((aV .i64 (Int.ofNat (List.length (bT (aF (aJ [i64,i64] x (2,1,()))).2).st)) (1)).toNat - (0:Int).toNat)) (1)).toNat - (0:Int).toNat) (List.drop ((0:Int).toNat+(0:Int).toNat) (bT (aF (aJ [i64,i64] x (2,1,()))).2).st)) [(m12 (o,List.getD (bT (aF (aJ [i64,i64] x (2,1,()))).2).st ((0:Int).toNat+(aV .i64 (Int.ofNat ((aV .i64 (Int.ofNat (List.length (bT (aF (aJ [i64,i64] x (2,1,()))).2).st)) (1)).toNat - (0:Int).toNat)) (1)).toNat) (aE (Ty.int .u64)),List.getD (bT (aF (aJ [i64,i64] x (2,1,()))).2).st (aV .i64 (Int.ofNat (List.length (bT (aF (aJ [i64,i64] x (2,1,()))).2).st)) (1)).toNat (aE (Ty.int .u64)),())).1])}) ()))))))))
 else
 some (aH fo (aJ [] (bT (aF (aJ [i64,i64] x (2,1,()))).2) ())))):=by kernel_rfl
theorem aan(x:ks)(a:Int):(t231 (aJ [i64] x (a,()))).val=
 bif decide (x.pc<a)then
  some (aH tK (aJ [] ({x with pc:=a}) ()))
 else
 bif decide (x.1.3=262144)then
  bif decide (x.1.5=0)then
   some (aH tK (aJ [] ({x with r:={x.r with err:=41}}) ()))
  else
  some (aH tK (aJ [] x ()))
 else
 some (aH tK (aJ [] ({x with r:={x.r with eG:=(bL .i64 x.1.3 (1))},pc:=a}) ())):=by kernel_rfl
theorem wg(g:Cg)(x:ks)(o a n:Int):(t134 g (aJ [i64,i64,u64] x (o,a,n,()))).val=
 bif decide (o=0)then
  bif decide (x.1.5=0)then
   some (aH jU (aJ [] ({x with r:={x.r with err:=20}}) ()))
  else
  some (aH jU (aJ [] x ()))
 else
 bif decide (o=12)then
  bJ (J3 (aJ [i64] x (a,()))) (
  some (aH jU (aJ [] (bT (J4 (aJ [i64] x (a,())))) ())))
 else
 bif decide (o=13)then
  bJ (ij (aJ [i64,i64] x (1,0,()))) (
  bif (aF (aJ [i64,i64] x (1,0,()))).1 then
   bJ (bF (aV .i64 (Int.ofNat (List.length (bT (aF (aJ [i64,i64] x (1,0,()))).2).st)) (1)) (Int.ofNat (List.length (bT (aF (aJ [i64,i64] x (1,0,()))).2).st))) (
   bJ (dy (0) (aV .i64 (Int.ofNat (List.length (bT (aF (aJ [i64,i64] x (1,0,()))).2).st)) (1)) (Int.ofNat (List.length (bT (aF (aJ [i64,i64] x (1,0,()))).2).st))) (
   bif !decide (ao .u32 (List.getD (bT (aF (aJ [i64,i64] x (1,0,()))).2).st (aV .i64 (Int.ofNat (List.length (bT (aF (aJ [i64,i64] x (1,0,()))).2).st)) (1)).toNat (aE (Ty.int .u64)))=0)then
    bJ (J3 (aJ [i64] ({(bT (aF (aJ [i64,i64] x (1,0,()))).2)with st:=(List.take ((aV .i64 (Int.ofNat (List.length (bT (aF (aJ [i64,i64] x (1,0,()))).2).st)) (1)).toNat - (0:Int).toNat) (List.drop (0:Int).toNat (bT (aF (aJ [i64,i64] x (1,0,()))).2).st))}) (a,()))) (
    some (aH jU (aJ [] (bT (J4 (aJ [i64] ({(bT (aF (aJ [i64,i64] x (1,0,()))).2)with st:=(List.take ((aV .i64 (Int.ofNat (List.length (bT (aF (aJ [i64,i64] x (1,0,()))).2).st)) (1)).toNat - (0:Int).toNat) (List.drop (0:Int).toNat (bT (aF (aJ [i64,i64] x (1,0,()))).2).st))}) (a,())))) ())))
   else
   some (aH jU (aJ [] ({(bT (aF (aJ [i64,i64] x (1,0,()))).2)with pc:=(bL .i64 (bT (aF (aJ [i64,i64] x (1,0,()))).2).pc (1)),st:=(List.take ((aV .i64 (Int.ofNat (List.length (bT (aF (aJ [i64,i64] x (1,0,()))).2).st)) (1)).toNat - (0:Int).toNat) (List.drop (0:Int).toNat (bT (aF (aJ [i64,i64] x (1,0,()))).2).st))}) ()))))
  else
  some (aH jU (aJ [] (bT (aF (aJ [i64,i64] x (1,0,()))).2) ())))
 else
 bif decide (o=14)then
  bJ (ij (aJ [i64,i64] x (1,0,()))) (
  bif (aF (aJ [i64,i64] x (1,0,()))).1 then
   bJ (bF (aV .i64 (Int.ofNat (List.length (bT (aF (aJ [i64,i64] x (1,0,()))).2).st)) (1)) (Int.ofNat (List.length (bT (aF (aJ [i64,i64] x (1,0,()))).2).st))) (
   bJ (dy (0) (aV .i64 (Int.ofNat (List.length (bT (aF (aJ [i64,i64] x (1,0,()))).2).st)) (1)) (Int.ofNat (List.length (bT (aF (aJ [i64,i64] x (1,0,()))).2).st))) (
   bJ (decide ((bT (aF (aJ [i64,i64] x (1,0,()))).2).pc=(bT (aF (aJ [i64,i64] x (1,0,()))).2).pc)) (
   bJ (decide (a=a)) (
   some (aH jU (aJ [] ({(bT (aF (aJ [i64,i64] x (1,0,()))).2)with pc:=(bL .i64 (bT (aF (aJ [i64,i64] x (1,0,()))).2).pc (bL .i64 (1) (ao .i64 (min (ao .u64 (ao .u32 (List.getD (bT (aF (aJ [i64,i64] x (1,0,()))).2).st (aV .i64 (Int.ofNat (List.length (bT (aF (aJ [i64,i64] x (1,0,()))).2).st)) (1)).toNat (aE (Ty.int .u64))))) (ao .u64 a))))),st:=(List.take ((aV .i64 (Int.ofNat (List.length (bT (aF (aJ [i64,i64] x (1,0,()))).2).st)) (1)).toNat - (0:Int).toNat) (List.drop (0:Int).toNat (bT (aF (aJ [i64,i64] x (1,0,()))).2).st))}) ()))))))
  else
  some (aH jU (aJ [] (bT (aF (aJ [i64,i64] x (1,0,()))).2) ())))
 else
 bif decide (o=15)then
  bJ (ij (aJ [i64,i64] x (x.2.2.2.2.1,0,()))) (
  bif (aF (aJ [i64,i64] x (x.2.2.2.2.1,0,()))).1 then
   bJ (dy (aV .i64 (Int.ofNat (List.length (bT (aF (aJ [i64,i64] x (x.2.2.2.2.1,0,()))).2).st)) (bT (aF (aJ [i64,i64] x (x.2.2.2.2.1,0,()))).2).f.2.2.2.1) (Int.ofNat (List.length (bT (aF (aJ [i64,i64] x (x.2.2.2.2.1,0,()))).2).st)) (Int.ofNat (List.length (bT (aF (aJ [i64,i64] x (x.2.2.2.2.1,0,()))).2).st))) (
   some (aH jU (aJ [] ({(bT (aF (aJ [i64,i64] x (x.2.2.2.2.1,0,()))).2)with pc:=(-1),st:=(List.take ((Int.ofNat (List.length (bT (aF (aJ [i64,i64] x (x.2.2.2.2.1,0,()))).2).st)).toNat - (aV .i64 (Int.ofNat (List.length (bT (aF (aJ [i64,i64] x (x.2.2.2.2.1,0,()))).2).st)) (bT (aF (aJ [i64,i64] x (x.2.2.2.2.1,0,()))).2).f.2.2.2.1).toNat) (List.drop (aV .i64 (Int.ofNat (List.length (bT (aF (aJ [i64,i64] x (x.2.2.2.2.1,0,()))).2).st)) (bT (aF (aJ [i64,i64] x (x.2.2.2.2.1,0,()))).2).f.2.2.2.1).toNat (bT (aF (aJ [i64,i64] x (x.2.2.2.2.1,0,()))).2).st))}) ())))
  else
  some (aH jU (aJ [] (bT (aF (aJ [i64,i64] x (x.2.2.2.2.1,0,()))).2) ())))
 else
 bif decide (o=16)then
  bJ (Uv g (aJ [i64] x (a,()))) (
  some (aH jU (aJ [] (bT (Uw g (aJ [i64] x (a,())))) ())))
 else
 bif decide (o=17)then
  bJ (aad g (aJ [i64] x (a,()))) (
  some (aH jU (aJ [] (bT (aae g (aJ [i64] x (a,())))) ())))
 else
 bJ (l9 (aJ [i64,i64,u64] x (o,a,n,()))) (
 some (aH jU (aJ [] ({(bT (lF (aJ [i64,i64,u64] x (o,a,n,()))))with pc:=(bL .i64 (bT (lF (aJ [i64,i64,u64] x (o,a,n,())))).pc (1))}) ()))):=by kernel_rfl
end Go.Proofs.Vq

noncomputable section
namespace Go.Proofs.Vq
open Go.Ab Go.Ab.Lf
set_option maxRecDepth 100000
theorem Rk(l:List Int)(n i:Int):(vY (aH qi (l,n,i,()))).val=
 bif decide (i<n)then
  bJ (bF i ((l.length:Int))) (
  bif bif !decide (l.getD i.toNat (aE (Ty.int .i64))=127)then !decide (l.getD i.toNat (aE (Ty.int .i64))=126)else false then
   some (.out 1 (aH mC (false,())))
  else
  some (.next (aH qi (l,n,bL .i64 i (1),()))))
 else
 some (.out 0 (aH nY (()))):=by kernel_rfl
theorem af7(l:List Int):(t83 (l,())).val=
 bJ (wS vY [(Ty.int .i64).aC,Ty.int .i64,Ty.int .i64] [] [Ty.bool] (l,(l.length:Int),0,())) (
 bif vW vY [(Ty.int .i64).aC,Ty.int .i64,Ty.int .i64] (l,(l.length:Int),0,())then
  some (aH AX (true,()))
 else
 some (aH AX ((je vY [(Ty.int .i64).aC,Ty.int .i64,Ty.int .i64] [Ty.bool] (l,(l.length:Int),0,())).1,()))):=by kernel_rfl
theorem Rl(o:Int):(t245 (o,())).val=
 bif decide (o=0)then
  some (aH fe (true,()))
 else
 bif decide (o=12)then
  some (aH fe (true,()))
 else
 bif decide (o=257)then
  some (aH fe (true,()))
 else
 bif decide (o=13)then
  some (aH fe (true,()))
 else
 bif decide (o=14)then
  some (aH fe (true,()))
 else
 bif decide (o=26)then
  some (aH fe (true,()))
 else
 bif decide (o=33)then
  some (aH fe (true,()))
 else
 bif decide (o=36)then
  some (aH fe (true,()))
 else
 bif decide (o=27)then
  some (aH fe (true,()))
 else
 bif decide (o=32)then
  some (aH fe (true,()))
 else
 bif decide (o=35)then
  some (aH fe (true,()))
 else
 bif decide (o=63)then
  some (aH fe (true,()))
 else
 bif decide (o=66)then
  some (aH fe (true,()))
 else
 bif decide (o=34)then
  some (aH fe (true,()))
 else
 bif decide (o=64)then
  some (aH fe (true,()))
 else
 bif decide (o=40)then
  some (aH fe (true,()))
 else
 bif decide (o=41)then
  some (aH fe (true,()))
 else
 bif bif decide (44<=o)then decide (o<=53)else false then
  some (aH fe (true,()))
 else
 bif decide (o=54)then
  some (aH fe (true,()))
 else
 bif decide (o=55)then
  some (aH fe (true,()))
 else
 bif bif decide (58<=o)then decide (o<=62)else false then
  some (aH fe (true,()))
 else
 bJ (CV (o,())) (
 bif decide (0<(m11 (o,())).1)then
  bJ (CV (o,())) (
  some (aH fe (true,())))
 else
 some (aH fe (bif decide (o=15)then true else bif decide (o=16)then true else bif decide (o=17)then true else decide (o=256),()))):=by kernel_rfl
theorem aao(ss:List (den bz))(fs:List (den cr))(p0 p1 p2 p3 p4:Int)(cs:List (den bE))(ms:List Int)(t o a n:Int):(t141 (ss,fs,p0,p1,p2,p3,p4,cs,ms,t,o,a,n,())).val=
 bif decide (o=12)then
  some (aH kS (bif decide (0<=a)then decide (a<(cs.length:Int))else false,()))
 else
 bif decide (o=13)then
  some (aH kS (bif decide (0<=a)then decide (a<(cs.length:Int))else false,()))
 else
 bif decide (o=14)then
  some (aH kS (bif decide (0<=a)then decide (a<aV .i64 (aV .i64 ((cs.length:Int)) t) (1))else false,()))
 else
 bif decide (o=16)then
  some (aH kS (bif decide (0<=a)then decide (a<(fs.length:Int))else false,()))
 else
 bif decide (o=17)then
  some (aH kS (bif decide (0<=a)then decide (a<(ss.length:Int))else false,()))
 else
 bif decide (o=32)then
  some (aH kS (bif decide (0<=a)then decide (a<bL .i64 p2 p4)else false,()))
 else
 bif decide (o=33)then
  some (aH kS (bif decide (0<=a)then decide (a<bL .i64 p2 p4)else false,()))
 else
 bif decide (o=34)then
  some (aH kS (bif decide (0<=a)then decide (a<bL .i64 p2 p4)else false,()))
 else
 bif decide (o=35)then
  some (aH kS (decide (0<=a),()))
 else
 bif decide (o=36)then
  some (aH kS (decide (0<=a),()))
 else
 bif decide (o=256)then
  some (aH kS (bif decide (0<=a)then bif decide (a<=1048576)then decide (n<=1048576)else false else false,()))
 else
 bJ (OB (o,())) (
 some (aH kS ((JU (o,())).1,()))):=by kernel_rfl
theorem Rm(p0 p1 p2 p3 p4:Int)(cs:List (den bE))(ms:List Int)(ss:List (den bz))(fs:List (den cr))(ds:List (den bE))(n i:Int):(vZ (aH qj (p0,p1,p2,p3,p4,cs,ms,ss,fs,ds,n,i,()))).val=
 bif decide (i<n)then
  bJ (bF i ((ds.length:Int))) (
  bJ (OE (ss,fs,p0,p1,p2,p3,p4,cs,ms,i,(ds.getD i.toNat (aE ((Ty.int .i64).pair ((Ty.int .i64).pair (Ty.int .u64))))).1,(ds.getD i.toNat (aE ((Ty.int .i64).pair ((Ty.int .i64).pair (Ty.int .u64))))).2.1,(ds.getD i.toNat (aE ((Ty.int .i64).pair ((Ty.int .i64).pair (Ty.int .u64))))).2.2,())) (
  bif !(OG (ss,fs,p0,p1,p2,p3,p4,cs,ms,i,(ds.getD i.toNat (aE ((Ty.int .i64).pair ((Ty.int .i64).pair (Ty.int .u64))))).1,(ds.getD i.toNat (aE ((Ty.int .i64).pair ((Ty.int .i64).pair (Ty.int .u64))))).2.1,(ds.getD i.toNat (aE ((Ty.int .i64).pair ((Ty.int .i64).pair (Ty.int .u64))))).2.2,())).1 then
   some (.out 1 (aH mD (false,())))
  else
  some (.next (aH qj (p0,p1,p2,p3,p4,cs,ms,ss,fs,ds,n,bL .i64 i (1),())))))
 else
 some (.out 0 (aH nZ (()))):=by kernel_rfl
theorem af8(ss:List (den bz))(fs:List (den cr))(p0 p1 p2 p3 p4:Int)(cs:List (den bE))(ms:List Int):(t84 (ss,fs,p0,p1,p2,p3,p4,cs,ms,())).val=
 bif bif decide (p0<(-1))then true else bif decide (p1<0)then true else bif decide ((ss.length:Int)<=p1)then true else bif decide (p4<0)then true else bif decide (4096<p4)then true else decide (p0=(-1)) ^^ decide (0<(cs.length:Int))then
  some (aH uf (false,()))
 else
 bJ (bF p1 ((ss.length:Int))) (
 bif bif !decide (p2=Int.ofNat (List.length (ss.getD p1.toNat (aE ((Ty.int .i64).aC.pair (Ty.int .i64).aC))).1))then true else !decide (p3=Int.ofNat (List.length (ss.getD p1.toNat (aE ((Ty.int .i64).aC.pair (Ty.int .i64).aC))).2))then
  some (aH uf (false,()))
 else
 bJ (wS vZ [Ty.int .i64,Ty.int .i64,Ty.int .i64,Ty.int .i64,Ty.int .i64,((Ty.int .i64).pair ((Ty.int .i64).pair (Ty.int .u64))).aC,(Ty.int .i64).aC,((Ty.int .i64).aC.pair (Ty.int .i64).aC).aC,((Ty.int .i64).pair ((Ty.int .i64).pair ((Ty.int .i64).pair ((Ty.int .i64).pair ((Ty.int .i64).pair (((Ty.int .i64).pair ((Ty.int .i64).pair (Ty.int .u64))).aC.pair (Ty.int .i64).aC)))))).aC,((Ty.int .i64).pair ((Ty.int .i64).pair (Ty.int .u64))).aC,Ty.int .i64,Ty.int .i64] [] [Ty.bool] (p0,p1,p2,p3,p4,cs,ms,ss,fs,cs,(cs.length:Int),0,())) (
 bif vW vZ [Ty.int .i64,Ty.int .i64,Ty.int .i64,Ty.int .i64,Ty.int .i64,((Ty.int .i64).pair ((Ty.int .i64).pair (Ty.int .u64))).aC,(Ty.int .i64).aC,((Ty.int .i64).aC.pair (Ty.int .i64).aC).aC,((Ty.int .i64).pair ((Ty.int .i64).pair ((Ty.int .i64).pair ((Ty.int .i64).pair ((Ty.int .i64).pair (((Ty.int .i64).pair ((Ty.int .i64).pair (Ty.int .u64))).aC.pair (Ty.int .i64).aC)))))).aC,((Ty.int .i64).pair ((Ty.int .i64).pair (Ty.int .u64))).aC,Ty.int .i64,Ty.int .i64] (p0,p1,p2,p3,p4,cs,ms,ss,fs,cs,(cs.length:Int),0,())then
  some (aH uf (true,()))
 else
 some (aH uf ((je vZ [Ty.int .i64,Ty.int .i64,Ty.int .i64,Ty.int .i64,Ty.int .i64,((Ty.int .i64).pair ((Ty.int .i64).pair (Ty.int .u64))).aC,(Ty.int .i64).aC,((Ty.int .i64).aC.pair (Ty.int .i64).aC).aC,((Ty.int .i64).pair ((Ty.int .i64).pair ((Ty.int .i64).pair ((Ty.int .i64).pair ((Ty.int .i64).pair (((Ty.int .i64).pair ((Ty.int .i64).pair (Ty.int .u64))).aC.pair (Ty.int .i64).aC)))))).aC,((Ty.int .i64).pair ((Ty.int .i64).pair (Ty.int .u64))).aC,Ty.int .i64,Ty.int .i64] [Ty.bool] (p0,p1,p2,p3,p4,cs,ms,ss,fs,cs,(cs.length:Int),0,())).1,())))):=by kernel_rfl
theorem Rp(ss:List (den bz))(fs:List (den cr))(l:List (den bz))(n i:Int):(f340 (aH iZ (ss,fs,l,n,i,()))).val=
 bif decide (i<n)then
  bJ (bF i ((l.length:Int))) (
  bJ (Wt ((l.getD i.toNat (aE ((Ty.int .i64).aC.pair (Ty.int .i64).aC))).1,())) (
  bif !(Wu ((l.getD i.toNat (aE ((Ty.int .i64).aC.pair (Ty.int .i64).aC))).1,())).1 then
   some (.out 1 (aH jt (1,())))
  else
  bJ (Wt ((l.getD i.toNat (aE ((Ty.int .i64).aC.pair (Ty.int .i64).aC))).2,())) (
  bif !(Wu ((l.getD i.toNat (aE ((Ty.int .i64).aC.pair (Ty.int .i64).aC))).2,())).1 then
   some (.out 1 (aH jt (1,())))
  else
  some (.next (aH iZ (ss,fs,l,n,bL .i64 i (1),()))))))
 else
 some (.out 0 (aH fH (ss,fs,()))):=by kernel_rfl
theorem Rq(ss:List (den bz))(fs:List (den cr))(n i:Int):(f342 (aH nz (ss,fs,n,i,()))).val=
 bif decide (i<n)then
  bJ (bF i ((fs.length:Int))) (
  bJ (k84 (ss,fs,(fs.getD i.toNat (aE ((Ty.int .i64).pair ((Ty.int .i64).pair ((Ty.int .i64).pair ((Ty.int .i64).pair ((Ty.int .i64).pair (((Ty.int .i64).pair ((Ty.int .i64).pair (Ty.int .u64))).aC.pair (Ty.int .i64).aC)))))))).1,(fs.getD i.toNat (aE ((Ty.int .i64).pair ((Ty.int .i64).pair ((Ty.int .i64).pair ((Ty.int .i64).pair ((Ty.int .i64).pair (((Ty.int .i64).pair ((Ty.int .i64).pair (Ty.int .u64))).aC.pair (Ty.int .i64).aC)))))))).2.1,(fs.getD i.toNat (aE ((Ty.int .i64).pair ((Ty.int .i64).pair ((Ty.int .i64).pair ((Ty.int .i64).pair ((Ty.int .i64).pair (((Ty.int .i64).pair ((Ty.int .i64).pair (Ty.int .u64))).aC.pair (Ty.int .i64).aC)))))))).2.2.1,(fs.getD i.toNat (aE ((Ty.int .i64).pair ((Ty.int .i64).pair ((Ty.int .i64).pair ((Ty.int .i64).pair ((Ty.int .i64).pair (((Ty.int .i64).pair ((Ty.int .i64).pair (Ty.int .u64))).aC.pair (Ty.int .i64).aC)))))))).2.2.2.1,(fs.getD i.toNat (aE ((Ty.int .i64).pair ((Ty.int .i64).pair ((Ty.int .i64).pair ((Ty.int .i64).pair ((Ty.int .i64).pair (((Ty.int .i64).pair ((Ty.int .i64).pair (Ty.int .u64))).aC.pair (Ty.int .i64).aC)))))))).2.2.2.2.1,(fs.getD i.toNat (aE ((Ty.int .i64).pair ((Ty.int .i64).pair ((Ty.int .i64).pair ((Ty.int .i64).pair ((Ty.int .i64).pair (((Ty.int .i64).pair ((Ty.int .i64).pair (Ty.int .u64))).aC.pair (Ty.int .i64).aC)))))))).2.2.2.2.2.1,(fs.getD i.toNat (aE ((Ty.int .i64).pair ((Ty.int .i64).pair ((Ty.int .i64).pair ((Ty.int .i64).pair ((Ty.int .i64).pair (((Ty.int .i64).pair ((Ty.int .i64).pair (Ty.int .u64))).aC.pair (Ty.int .i64).aC)))))))).2.2.2.2.2.2,())) (
  bif !(m84 (ss,fs,(fs.getD i.toNat (aE ((Ty.int .i64).pair ((Ty.int .i64).pair ((Ty.int .i64).pair ((Ty.int .i64).pair ((Ty.int .i64).pair (((Ty.int .i64).pair ((Ty.int .i64).pair (Ty.int .u64))).aC.pair (Ty.int .i64).aC)))))))).1,(fs.getD i.toNat (aE ((Ty.int .i64).pair ((Ty.int .i64).pair ((Ty.int .i64).pair ((Ty.int .i64).pair ((Ty.int .i64).pair (((Ty.int .i64).pair ((Ty.int .i64).pair (Ty.int .u64))).aC.pair (Ty.int .i64).aC)))))))).2.1,(fs.getD i.toNat (aE ((Ty.int .i64).pair ((Ty.int .i64).pair ((Ty.int .i64).pair ((Ty.int .i64).pair ((Ty.int .i64).pair (((Ty.int .i64).pair ((Ty.int .i64).pair (Ty.int .u64))).aC.pair (Ty.int .i64).aC)))))))).2.2.1,(fs.getD i.toNat (aE ((Ty.int .i64).pair ((Ty.int .i64).pair ((Ty.int .i64).pair ((Ty.int .i64).pair ((Ty.int .i64).pair (((Ty.int .i64).pair ((Ty.int .i64).pair (Ty.int .u64))).aC.pair (Ty.int .i64).aC)))))))).2.2.2.1,(fs.getD i.toNat (aE ((Ty.int .i64).pair ((Ty.int .i64).pair ((Ty.int .i64).pair ((Ty.int .i64).pair ((Ty.int .i64).pair (((Ty.int .i64).pair ((Ty.int .i64).pair (Ty.int .u64))).aC.pair (Ty.int .i64).aC)))))))).2.2.2.2.1,(fs.getD i.toNat (aE ((Ty.int .i64).pair ((Ty.int .i64).pair ((Ty.int .i64).pair ((Ty.int .i64).pair ((Ty.int .i64).pair (((Ty.int .i64).pair ((Ty.int .i64).pair (Ty.int .u64))).aC.pair (Ty.int .i64).aC)))))))).2.2.2.2.2.1,(fs.getD i.toNat (aE ((Ty.int .i64).pair ((Ty.int .i64).pair ((Ty.int .i64).pair ((Ty.int .i64).pair ((Ty.int .i64).pair (((Ty.int .i64).pair ((Ty.int .i64).pair (Ty.int .u64))).aC.pair (Ty.int .i64).aC)))))))).2.2.2.2.2.2,())).1 then
   some (.out 1 (aH j8 (1,())))
  else
  some (.next (aH nz (ss,fs,n,bL .i64 i (1),())))))
 else
 some (.out 0 (aH mE (()))):=by kernel_rfl
theorem af9(ss:List (den bz))(fs:List (den cr)):(t34 (ss,fs,())).val=
 bJ (wS f340 [((Ty.int .i64).aC.pair (Ty.int .i64).aC).aC,((Ty.int .i64).pair ((Ty.int .i64).pair ((Ty.int .i64).pair ((Ty.int .i64).pair ((Ty.int .i64).pair (((Ty.int .i64).pair ((Ty.int .i64).pair (Ty.int .u64))).aC.pair (Ty.int .i64).aC)))))).aC,((Ty.int .i64).aC.pair (Ty.int .i64).aC).aC,Ty.int .i64,Ty.int .i64] [((Ty.int .i64).aC.pair (Ty.int .i64).aC).aC,((Ty.int .i64).pair ((Ty.int .i64).pair ((Ty.int .i64).pair ((Ty.int .i64).pair ((Ty.int .i64).pair (((Ty.int .i64).pair ((Ty.int .i64).pair (Ty.int .u64))).aC.pair (Ty.int .i64).aC)))))).aC] [Ty.int .i64] (ss,fs,ss,(ss.length:Int),0,())) (
 bif vW f340 [((Ty.int .i64).aC.pair (Ty.int .i64).aC).aC,((Ty.int .i64).pair ((Ty.int .i64).pair ((Ty.int .i64).pair ((Ty.int .i64).pair ((Ty.int .i64).pair (((Ty.int .i64).pair ((Ty.int .i64).pair (Ty.int .u64))).aC.pair (Ty.int .i64).aC)))))).aC,((Ty.int .i64).aC.pair (Ty.int .i64).aC).aC,Ty.int .i64,Ty.int .i64] (ss,fs,ss,(ss.length:Int),0,())then
  bJ (wS f342 [((Ty.int .i64).aC.pair (Ty.int .i64).aC).aC,((Ty.int .i64).pair ((Ty.int .i64).pair ((Ty.int .i64).pair ((Ty.int .i64).pair ((Ty.int .i64).pair (((Ty.int .i64).pair ((Ty.int .i64).pair (Ty.int .u64))).aC.pair (Ty.int .i64).aC)))))).aC,Ty.int .i64,Ty.int .i64] [] [Ty.int .i64] ((je f340 [((Ty.int .i64).aC.pair (Ty.int .i64).aC).aC,((Ty.int .i64).pair ((Ty.int .i64).pair ((Ty.int .i64).pair ((Ty.int .i64).pair ((Ty.int .i64).pair (((Ty.int .i64).pair ((Ty.int .i64).pair (Ty.int .u64))).aC.pair (Ty.int .i64).aC)))))).aC,((Ty.int .i64).aC.pair (Ty.int .i64).aC).aC,Ty.int .i64,Ty.int .i64] [((Ty.int .i64).aC.pair (Ty.int .i64).aC).aC,((Ty.int .i64).pair ((Ty.int .i64).pair ((Ty.int .i64).pair ((Ty.int .i64).pair ((Ty.int .i64).pair (((Ty.int .i64).pair ((Ty.int .i64).pair (Ty.int .u64))).aC.pair (Ty.int .i64).aC)))))).aC] (ss,fs,ss,(ss.length:Int),0,())).1,(je f340 [((Ty.int .i64).aC.pair (Ty.int .i64).aC).aC,((Ty.int .i64).pair ((Ty.int .i64).pair ((Ty.int .i64).pair ((Ty.int .i64).pair ((Ty.int .i64).pair (((Ty.int .i64).pair ((Ty.int .i64).pair (Ty.int .u64))).aC.pair (Ty.int .i64).aC)))))).aC,((Ty.int .i64).aC.pair (Ty.int .i64).aC).aC,Ty.int .i64,Ty.int .i64] [((Ty.int .i64).aC.pair (Ty.int .i64).aC).aC,((Ty.int .i64).pair ((Ty.int .i64).pair ((Ty.int .i64).pair ((Ty.int .i64).pair ((Ty.int .i64).pair (((Ty.int .i64).pair ((Ty.int .i64).pair (Ty.int .u64))).aC.pair (Ty.int .i64).aC)))))).aC] (ss,fs,ss,(ss.length:Int),0,())).2.1,Int.ofNat (List.length (je f340 [((Ty.int .i64).aC.pair (Ty.int .i64).aC).aC,((Ty.int .i64).pair ((Ty.int .i64).pair ((Ty.int .i64).pair ((Ty.int .i64).pair ((Ty.int .i64).pair (((Ty.int .i64).pair ((Ty.int .i64).pair (Ty.int .u64))).aC.pair (Ty.int .i64).aC)))))).aC,((Ty.int .i64).aC.pair (Ty.int .i64).aC).aC,Ty.int .i64,Ty.int .i64] [((Ty.int .i64).aC.pair (Ty.int .i64).aC).aC,((Ty.int .i64).pair ((Ty.int .i64).pair ((Ty.int .i64).pair ((Ty.int .i64).pair ((Ty.int .i64).pair (((Ty.int .i64).pair ((Ty.int .i64).pair (Ty.int .u64))).aC.pair (Ty.int .i64).aC)))))).aC] (ss,fs,ss,(ss.length:Int),0,())).2.1),0,())) (
  bif vW f342 [((Ty.int .i64).aC.pair (Ty.int .i64).aC).aC,((Ty.int .i64).pair ((Ty.int .i64).pair ((Ty.int .i64).pair ((Ty.int .i64).pair ((Ty.int .i64).pair (((Ty.int .i64).pair ((Ty.int .i64).pair (Ty.int .u64))).aC.pair (Ty.int .i64).aC)))))).aC,Ty.int .i64,Ty.int .i64] ((je f340 [((Ty.int .i64).aC.pair (Ty.int .i64).aC).aC,((Ty.int .i64).pair ((Ty.int .i64).pair ((Ty.int .i64).pair ((Ty.int .i64).pair ((Ty.int .i64).pair (((Ty.int .i64).pair ((Ty.int .i64).pair (Ty.int .u64))).aC.pair (Ty.int .i64).aC)))))).aC,((Ty.int .i64).aC.pair (Ty.int .i64).aC).aC,Ty.int .i64,Ty.int .i64] [((Ty.int .i64).aC.pair (Ty.int .i64).aC).aC,((Ty.int .i64).pair ((Ty.int .i64).pair ((Ty.int .i64).pair ((Ty.int .i64).pair ((Ty.int .i64).pair (((Ty.int .i64).pair ((Ty.int .i64).pair (Ty.int .u64))).aC.pair (Ty.int .i64).aC)))))).aC] (ss,fs,ss,(ss.length:Int),0,())).1,(je f340 [((Ty.int .i64).aC.pair (Ty.int .i64).aC).aC,((Ty.int .i64).pair ((Ty.int .i64).pair ((Ty.int .i64).pair ((Ty.int .i64).pair ((Ty.int .i64).pair (((Ty.int .i64).pair ((Ty.int .i64).pair (Ty.int .u64))).aC.pair (Ty.int .i64).aC)))))).aC,((Ty.int .i64).aC.pair (Ty.int .i64).aC).aC,Ty.int .i64,Ty.int .i64] [((Ty.int .i64).aC.pair (Ty.int .i64).aC).aC,((Ty.int .i64).pair ((Ty.int .i64).pair ((Ty.int .i64).pair ((Ty.int .i64).pair ((Ty.int .i64).pair (((Ty.int .i64).pair ((Ty.int .i64).pair (Ty.int .u64))).aC.pair (Ty.int .i64).aC)))))).aC] (ss,fs,ss,(ss.length:Int),0,())).2.1,Int.ofNat (List.length (je f340 [((Ty.int .i64).aC.pair (Ty.int .i64).aC).aC,((Ty.int .i64).pair ((Ty.int .i64).pair ((Ty.int .i64).pair ((Ty.int .i64).pair ((Ty.int .i64).pair (((Ty.int .i64).pair ((Ty.int .i64).pair (Ty.int .u64))).aC.pair (Ty.int .i64).aC)))))).aC,((Ty.int .i64).aC.pair (Ty.int .i64).aC).aC,Ty.int .i64,Ty.int .i64] [((Ty.int .i64).aC.pair (Ty.int .i64).aC).aC,((Ty.int .i64).pair ((Ty.int .i64).pair ((Ty.int .i64).pair ((Ty.int .i64).pair ((Ty.int .i64).pair (((Ty.int .i64).pair ((Ty.int .i64).pair (Ty.int .u64))).aC.pair (Ty.int .i64).aC)))))).aC] (ss,fs,ss,(ss.length:Int),0,())).2.1),0,())then
   some (aH ug (0,()))
  else
  some (aH ug ((je f342 [((Ty.int .i64).aC.pair (Ty.int .i64).aC).aC,((Ty.int .i64).pair ((Ty.int .i64).pair ((Ty.int .i64).pair ((Ty.int .i64).pair ((Ty.int .i64).pair (((Ty.int .i64).pair ((Ty.int .i64).pair (Ty.int .u64))).aC.pair (Ty.int .i64).aC)))))).aC,Ty.int .i64,Ty.int .i64] [Ty.int .i64] ((je f340 [((Ty.int .i64).aC.pair (Ty.int .i64).aC).aC,((Ty.int .i64).pair ((Ty.int .i64).pair ((Ty.int .i64).pair ((Ty.int .i64).pair ((Ty.int .i64).pair (((Ty.int .i64).pair ((Ty.int .i64).pair (Ty.int .u64))).aC.pair (Ty.int .i64).aC)))))).aC,((Ty.int .i64).aC.pair (Ty.int .i64).aC).aC,Ty.int .i64,Ty.int .i64] [((Ty.int .i64).aC.pair (Ty.int .i64).aC).aC,((Ty.int .i64).pair ((Ty.int .i64).pair ((Ty.int .i64).pair ((Ty.int .i64).pair ((Ty.int .i64).pair (((Ty.int .i64).pair ((Ty.int .i64).pair (Ty.int .u64))).aC.pair (Ty.int .i64).aC)))))).aC] (ss,fs,ss,(ss.length:Int),0,())).1,(je f340 [((Ty.int .i64).aC.pair (Ty.int .i64).aC).aC,((Ty.int .i64).pair ((Ty.int .i64).pair ((Ty.int .i64).pair ((Ty.int .i64).pair ((Ty.int .i64).pair (((Ty.int .i64).pair ((Ty.int .i64).pair (Ty.int .u64))).aC.pair (Ty.int .i64).aC)))))).aC,((Ty.int .i64).aC.pair (Ty.int .i64).aC).aC,Ty.int .i64,Ty.int .i64] [((Ty.int .i64).aC.pair (Ty.int .i64).aC).aC,((Ty.int .i64).pair ((Ty.int .i64).pair ((Ty.int .i64).pair ((Ty.int .i64).pair ((Ty.int .i64).pair (((Ty.int .i64).pair ((Ty.int .i64).pair (Ty.int .u64))).aC.pair (Ty.int .i64).aC)))))).aC] (ss,fs,ss,(ss.length:Int),0,())).2.1,Int.ofNat (List.length (je f340 [((Ty.int .i64).aC.pair (Ty.int .i64).aC).aC,((Ty.int .i64).pair ((Ty.int .i64).pair ((Ty.int .i64).pair ((Ty.int .i64).pair ((Ty.int .i64).pair (((Ty.int .i64).pair ((Ty.int .i64).pair (Ty.int .u64))).aC.pair (Ty.int .i64).aC)))))).aC,((Ty.int .i64).aC.pair (Ty.int .i64).aC).aC,Ty.int .i64,Ty.int .i64] [((Ty.int .i64).aC.pair (Ty.int .i64).aC).aC,((Ty.int .i64).pair ((Ty.int .i64).pair ((Ty.int .i64).pair ((Ty.int .i64).pair ((Ty.int .i64).pair (((Ty.int .i64).pair ((Ty.int .i64).pair (Ty.int .u64))).aC.pair (Ty.int .i64).aC)))))).aC] (ss,fs,ss,(ss.length:Int),0,())).2.1),0,())).1,())))
 else
 some (aH ug ((je f340 [((Ty.int .i64).aC.pair (Ty.int .i64).aC).aC,((Ty.int .i64).pair ((Ty.int .i64).pair ((Ty.int .i64).pair ((Ty.int .i64).pair ((Ty.int .i64).pair (((Ty.int .i64).pair ((Ty.int .i64).pair (Ty.int .u64))).aC.pair (Ty.int .i64).aC)))))).aC,((Ty.int .i64).aC.pair (Ty.int .i64).aC).aC,Ty.int .i64,Ty.int .i64] [Ty.int .i64] (ss,fs,ss,(ss.length:Int),0,())).1,()))):=by kernel_rfl
end Go.Proofs.Vq

noncomputable section
namespace Go.Proofs.Vq
open Go.Ab Go.Ab.Lf
set_option maxRecDepth 100000
theorem aap(o x:Int):(t13 (o,x,())).val=
 bJ (CV (o,())) (
 bif !decide ((m11 (o,())).1=1)then
  some (aH ju (0,1,()))
 else
 bif decide (o=69)then
  bif decide (ao .u32 x=0)then
   some (aH ju (1,0,()))
  else
  some (aH ju (0,0,()))
 else
 bif decide (o=80)then
  bif decide (x=0)then
   some (aH ju (1,0,()))
  else
  some (aH ju (0,0,()))
 else
 bif decide (o=103)then
  bJ (decide (0<=ao .u32 x)&&decide (ao .u32 x<=4294967295)) (
  some (aH ju (ao .u64 (lz 32 (ao .u32 x)),0,())))
 else
 bif decide (o=104)then
  bJ (decide (0<=ao .u32 x)&&decide (ao .u32 x<=4294967295)) (
  some (aH ju (ao .u64 (tz 32 (ao .u32 x)),0,())))
 else
 bif decide (o=105)then
  bJ (k51 (ao .u32 x,())) (
  some (aH ju (ao .u64 (m51 (ao .u32 x,())).1,0,())))
 else
 bif decide (o=121)then
  bJ (decide (0<=x)&&decide (x<=18446744073709551615)) (
  some (aH ju (ao .u64 (lz 64 x),0,())))
 else
 bif decide (o=122)then
  bJ (decide (0<=x)&&decide (x<=18446744073709551615)) (
  some (aH ju (ao .u64 (tz 64 x),0,())))
 else
 bif decide (o=123)then
  bJ (k54 (x,())) (
  some (aH ju (ao .u64 (m54 (x,())).1,0,())))
 else
 bif decide (o=172)then
  some (aH ju (ao .u64 (ao .i32 x),0,()))
 else
 bif decide (o=196)then
  some (aH ju (ao .u64 (ao .i32 x),0,()))
 else
 bif decide (o=192)then
  some (aH ju (ao .u64 (ao .u32 (ao .i8 x)),0,()))
 else
 bif decide (o=193)then
  some (aH ju (ao .u64 (ao .u32 (ao .i16 x)),0,()))
 else
 bif decide (o=194)then
  some (aH ju (ao .u64 (ao .i8 x),0,()))
 else
 bif decide (o=195)then
  some (aH ju (ao .u64 (ao .i16 x),0,()))
 else
 some (aH ju (ao .u64 (ao .u32 x),0,()))):=by kernel_rfl
theorem aaq(o x y:Int):(t12 (o,x,y,())).val=
 bJ (CV (o,())) (
 bif !decide ((m11 (o,())).1=2)then
  some (aH cS (0,1,()))
 else
 bif decide (o<=79)then
  bif decide (aV .i64 o (70)=0)then
   bif decide (ao .i64 (ao .i32 x)=ao .i64 (ao .i32 y))then
    some (aH cS (1,0,()))
   else
   some (aH cS (0,0,()))
  else
  bif decide (aV .i64 o (70)=1)then
   bif !decide (ao .i64 (ao .i32 x)=ao .i64 (ao .i32 y))then
    some (aH cS (1,0,()))
   else
   some (aH cS (0,0,()))
  else
  bif decide (aV .i64 o (70)=2)then
   bif decide (ao .i64 (ao .i32 x)<ao .i64 (ao .i32 y))then
    some (aH cS (1,0,()))
   else
   some (aH cS (0,0,()))
  else
  bif decide (aV .i64 o (70)=3)then
   bif decide (ao .u64 (ao .i64 (ao .i32 x))<ao .u64 (ao .i64 (ao .i32 y)))then
    some (aH cS (1,0,()))
   else
   some (aH cS (0,0,()))
  else
  bif decide (aV .i64 o (70)=4)then
   bif decide (ao .i64 (ao .i32 y)<ao .i64 (ao .i32 x))then
    some (aH cS (1,0,()))
   else
   some (aH cS (0,0,()))
  else
  bif decide (aV .i64 o (70)=5)then
   bif decide (ao .u64 (ao .i64 (ao .i32 y))<ao .u64 (ao .i64 (ao .i32 x)))then
    some (aH cS (1,0,()))
   else
   some (aH cS (0,0,()))
  else
  bif decide (aV .i64 o (70)=6)then
   bif decide (ao .i64 (ao .i32 x)<=ao .i64 (ao .i32 y))then
    some (aH cS (1,0,()))
   else
   some (aH cS (0,0,()))
  else
  bif decide (aV .i64 o (70)=7)then
   bif decide (ao .u64 (ao .i64 (ao .i32 x))<=ao .u64 (ao .i64 (ao .i32 y)))then
    some (aH cS (1,0,()))
   else
   some (aH cS (0,0,()))
  else
  bif decide (aV .i64 o (70)=8)then
   bif decide (ao .i64 (ao .i32 y)<=ao .i64 (ao .i32 x))then
    some (aH cS (1,0,()))
   else
   some (aH cS (0,0,()))
  else
  bif decide (ao .u64 (ao .i64 (ao .i32 y))<=ao .u64 (ao .i64 (ao .i32 x)))then
   some (aH cS (1,0,()))
  else
  some (aH cS (0,0,()))
 else
 bif decide (o<=90)then
  bif decide (aV .i64 o (81)=0)then
   bif decide (ao .i64 x=ao .i64 y)then
    some (aH cS (1,0,()))
   else
   some (aH cS (0,0,()))
  else
  bif decide (aV .i64 o (81)=1)then
   bif !decide (ao .i64 x=ao .i64 y)then
    some (aH cS (1,0,()))
   else
   some (aH cS (0,0,()))
  else
  bif decide (aV .i64 o (81)=2)then
   bif decide (ao .i64 x<ao .i64 y)then
    some (aH cS (1,0,()))
   else
   some (aH cS (0,0,()))
  else
  bif decide (aV .i64 o (81)=3)then
   bif decide (ao .u64 (ao .i64 x)<ao .u64 (ao .i64 y))then
    some (aH cS (1,0,()))
   else
   some (aH cS (0,0,()))
  else
  bif decide (aV .i64 o (81)=4)then
   bif decide (ao .i64 y<ao .i64 x)then
    some (aH cS (1,0,()))
   else
   some (aH cS (0,0,()))
  else
  bif decide (aV .i64 o (81)=5)then
   bif decide (ao .u64 (ao .i64 y)<ao .u64 (ao .i64 x))then
    some (aH cS (1,0,()))
   else
   some (aH cS (0,0,()))
  else
  bif decide (aV .i64 o (81)=6)then
   bif decide (ao .i64 x<=ao .i64 y)then
    some (aH cS (1,0,()))
   else
   some (aH cS (0,0,()))
  else
  bif decide (aV .i64 o (81)=7)then
   bif decide (ao .u64 (ao .i64 x)<=ao .u64 (ao .i64 y))then
    some (aH cS (1,0,()))
   else
   some (aH cS (0,0,()))
  else
  bif decide (aV .i64 o (81)=8)then
   bif decide (ao .i64 y<=ao .i64 x)then
    some (aH cS (1,0,()))
   else
   some (aH cS (0,0,()))
  else
  bif decide (ao .u64 (ao .i64 y)<=ao .u64 (ao .i64 x))then
   some (aH cS (1,0,()))
  else
  some (aH cS (0,0,()))
 else
 bif decide (o<=120)then
  bif bif decide (109<=o)then bif decide (o<=112)then decide (ao .u32 y=0)else false else false then
   some (aH cS (ao .u64 (0),21,()))
  else
  bif decide (o=106)then
   some (aH cS (ao .u64 (bL .u32 (ao .u32 x) (ao .u32 y)),0,()))
  else
  bif decide (o=107)then
   some (aH cS (ao .u64 (aV .u32 (ao .u32 x) (ao .u32 y)),0,()))
  else
  bif decide (o=108)then
   some (aH cS (ao .u64 (kh .u32 (ao .u32 x) (ao .u32 y)),0,()))
  else
  bif decide (o=109)then
   bif bif decide (ao .u32 x=2147483648)then decide (ao .u32 y=4294967295)else false then
    some (aH cS (ao .u64 (0),22,()))
   else
   bJ (!decide (ao .i32 (ao .u32 y)=0)) (
   some (aH cS (ao .u64 (ao .u32 (sX .i32 (ao .i32 (ao .u32 x)) (ao .i32 (ao .u32 y)))),0,())))
  else
  bif decide (o=110)then
   bJ (!decide (ao .u32 y=0)) (
   some (aH cS (ao .u64 (sX .u32 (ao .u32 x) (ao .u32 y)),0,())))
  else
  bif decide (o=111)then
   bJ (!decide (ao .i64 (ao .i32 (ao .u32 y))=0)) (
   some (aH cS (ao .u64 (ao .u32 (sY .i64 (ao .i64 (ao .i32 (ao .u32 x))) (ao .i64 (ao .i32 (ao .u32 y))))),0,())))
  else
  bif decide (o=112)then
   bJ (!decide (ao .u32 y=0)) (
   some (aH cS (ao .u64 (sY .u32 (ao .u32 x) (ao .u32 y)),0,())))
  else
  bif decide (o=113)then
   some (aH cS (ao .u64 (dm .u32 (ao .u32 x) (ao .u32 y)),0,()))
  else
  bif decide (o=114)then
   some (aH cS (ao .u64 (IK .u32 (ao .u32 x) (ao .u32 y)),0,()))
  else
  bif decide (o=115)then
   some (aH cS (ao .u64 (IL .u32 (ao .u32 x) (ao .u32 y)),0,()))
  else
  bif decide (o=116)then
   bJ (decide (0<=dm .u32 (ao .u32 y) (31))) (
   some (aH cS (ao .u64 (tX .u32 (ao .u32 x) (dm .u32 (ao .u32 y) (31))),0,())))
  else
  bif decide (o=117)then
   bJ (decide (0<=dm .u32 (ao .u32 y) (31))) (
   some (aH cS (ao .u64 (ao .u32 (lj .i32 (ao .i32 (ao .u32 x)) (dm .u32 (ao .u32 y) (31)))),0,())))
  else
  bif decide (o=118)then
   bJ (decide (0<=dm .u32 (ao .u32 y) (31))) (
   some (aH cS (ao .u64 (lj .u32 (ao .u32 x) (dm .u32 (ao .u32 y) (31))),0,())))
  else
  bif decide (o=119)then
   bJ (decide (0<=dm .u64 (ao .u64 (ao .i64 (dm .u32 (ao .u32 y) (31)))) (31))&&decide (0<=aV .u64 (32) (dm .u64 (ao .u64 (ao .i64 (dm .u32 (ao .u32 y) (31)))) (31)))) (
   some (aH cS (ao .u64 (IK .u32 (tX .u32 (ao .u32 x) (dm .u64 (ao .u64 (ao .i64 (dm .u32 (ao .u32 y) (31)))) (31))) (lj .u32 (ao .u32 x) (aV .u64 (32) (dm .u64 (ao .u64 (ao .i64 (dm .u32 (ao .u32 y) (31)))) (31))))),0,())))
  else
  bJ (decide (0<=dm .u64 (ao .u64 (wN .i64 (ao .i64 (dm .u32 (ao .u32 y) (31))))) (31))&&decide (0<=aV .u64 (32) (dm .u64 (ao .u64 (wN .i64 (ao .i64 (dm .u32 (ao .u32 y) (31))))) (31)))) (
  some (aH cS (ao .u64 (IK .u32 (tX .u32 (ao .u32 x) (dm .u64 (ao .u64 (wN .i64 (ao .i64 (dm .u32 (ao .u32 y) (31))))) (31))) (lj .u32 (ao .u32 x) (aV .u64 (32) (dm .u64 (ao .u64 (wN .i64 (ao .i64 (dm .u32 (ao .u32 y) (31))))) (31))))),0,())))
 else
 bif bif decide (127<=o)then bif decide (o<=130)then decide (y=0)else false else false then
  some (aH cS (0,21,()))
 else
 bif decide (o=124)then
  some (aH cS (bL .u64 x y,0,()))
 else
 bif decide (o=125)then
  some (aH cS (aV .u64 x y,0,()))
 else
 bif decide (o=126)then
  some (aH cS (kh .u64 x y,0,()))
 else
 bif decide (o=127)then
  bif bif decide (x=9223372036854775808)then decide (y=18446744073709551615)else false then
   some (aH cS (0,22,()))
  else
  bJ (!decide (ao .i64 y=0)) (
  some (aH cS (ao .u64 (sX .i64 (ao .i64 x) (ao .i64 y)),0,())))
 else
 bif decide (o=128)then
  bJ (!decide (y=0)) (
  some (aH cS (sX .u64 x y,0,())))
 else
 bif decide (o=129)then
  bif decide (y=18446744073709551615)then
   some (aH cS (0,0,()))
  else
  bJ (!decide (ao .i64 y=0)) (
  some (aH cS (ao .u64 (sY .i64 (ao .i64 x) (ao .i64 y)),0,())))
 else
 bif decide (o=130)then
  bJ (!decide (y=0)) (
  some (aH cS (sY .u64 x y,0,())))
 else
 bif decide (o=131)then
  some (aH cS (dm .u64 x y,0,()))
 else
 bif decide (o=132)then
  some (aH cS (IK .u64 x y,0,()))
 else
 bif decide (o=133)then
  some (aH cS (IL .u64 x y,0,()))
 else
 bif decide (o=134)then
  bJ (decide (0<=dm .u64 y (63))) (
  some (aH cS (tX .u64 x (dm .u64 y (63)),0,())))
 else
 bif decide (o=135)then
  bJ (decide (0<=dm .u64 y (63))) (
  some (aH cS (ao .u64 (lj .i64 (ao .i64 x) (dm .u64 y (63))),0,())))
 else
 bif decide (o=136)then
  bJ (decide (0<=dm .u64 y (63))) (
  some (aH cS (lj .u64 x (dm .u64 y (63)),0,())))
 else
 bif decide (o=137)then
  bJ (decide (0<=dm .u64 (ao .u64 (ao .i64 (dm .u64 y (63)))) (63))&&decide (0<=aV .u64 (64) (dm .u64 (ao .u64 (ao .i64 (dm .u64 y (63)))) (63)))) (
  some (aH cS (IK .u64 (tX .u64 x (dm .u64 (ao .u64 (ao .i64 (dm .u64 y (63)))) (63))) (lj .u64 x (aV .u64 (64) (dm .u64 (ao .u64 (ao .i64 (dm .u64 y (63)))) (63)))),0,())))
 else
 bJ (decide (0<=dm .u64 (ao .u64 (wN .i64 (ao .i64 (dm .u64 y (63))))) (63))&&decide (0<=aV .u64 (64) (dm .u64 (ao .u64 (wN .i64 (ao .i64 (dm .u64 y (63))))) (63)))) (
 some (aH cS (IK .u64 (tX .u64 x (dm .u64 (ao .u64 (wN .i64 (ao .i64 (dm .u64 y (63))))) (63))) (lj .u64 x (aV .u64 (64) (dm .u64 (ao .u64 (wN .i64 (ao .i64 (dm .u64 y (63))))) (63)))),0,())))):=by kernel_rfl
theorem Ke(o:Int):(t11 (o,())).val=
 bif decide (o=69)then
  some (aH oH (1,()))
 else
 bif decide (o=80)then
  some (aH oH (1,()))
 else
 bif bif decide (103<=o)then decide (o<=105)else false then
  some (aH oH (1,()))
 else
 bif bif decide (121<=o)then decide (o<=123)else false then
  some (aH oH (1,()))
 else
 bif decide (o=167)then
  some (aH oH (1,()))
 else
 bif decide (o=172)then
  some (aH oH (1,()))
 else
 bif decide (o=173)then
  some (aH oH (1,()))
 else
 bif bif decide (192<=o)then decide (o<=196)else false then
  some (aH oH (1,()))
 else
 bif bif decide (70<=o)then decide (o<=79)else false then
  some (aH oH (2,()))
 else
 bif bif decide (81<=o)then decide (o<=90)else false then
  some (aH oH (2,()))
 else
 bif bif decide (106<=o)then decide (o<=120)else false then
  some (aH oH (2,()))
 else
 bif bif decide (124<=o)then decide (o<=138)else false then
  some (aH oH (2,()))
 else
 some (aH oH (0,())):=by kernel_rfl
end Go.Proofs.Vq

noncomputable section
namespace Go.Ab.Lf
def Pr(to:List Ty)(t:T (List Pl)):Bool:=
 T.rec (motive:=fun _=>Bool) false (fun l=>(toT to l).isSome) (fun _ _ _ a b=>a&&b) (fun _ _ _=>false) t
theorem uM{to:List Ty}: ∀ {t:T (List Pl)},Pr to t=true->fy to t=true
 | .bad,h=>by cases h
 | .ok l,h=>by
  have h:(toT to l).isSome=true:=h
  show(match toT to l with|some _=>true|none=>false)=true
  cases hq:toT to l with
  |none=>rw[hq]at h;cases h
  |some y=>rfl
 | .br c a b,h=>by
  have h:(Pr to a&&Pr to b)=true:=h
  obtain⟨h1,h2⟩:=Bool.and_eq_true_iff.1 h
  have q1:=uM h1
  have q2:=uM h2
  unfold fy at*
  rw[T.yI]
  cases c
  ·exact q2
  ·exact q1
 | .ck c a,h=>by cases h
def Kf(to:List Ty)(t:T (List Pl)):Bool:=
 T.rec (motive:=fun _=>Bool) false (fun l=>(toT to l).isSome) (fun _ _ _ a b=>a&&b) (fun _ _ a=>a) t
def Kg(t:T (List Pl)):List Bool:=T.rec (motive:=fun _=>List Bool) [] (fun _=>[]) (fun _ _ _ a b=>app a b) (fun c _ a=>c::a) t
theorem uN{to:List Ty}: ∀ {t:T (List Pl)},Kf to t=true->(∀ c,c∈Kg t->c=true)->fy to t=true
 | .bad,h,_=>by cases h
 | .ok l,h,_=>uM (t:=.ok l) h
 | .br c a b,h,k=>by
  have h:(Kf to a&&Kf to b)=true:=h
  have k: ∀ d,d∈app (Kg a) (Kg b)->d=true:=k
  rw[dn]at k
  obtain⟨h1,h2⟩:=Bool.and_eq_true_iff.1 h
  have q1:=uN h1 fun d hd=>k d (List.mem_append_left _ hd)
  have q2:=uN h2 fun d hd=>k d (List.mem_append_right _ hd)
  unfold fy at*
  rw[T.yI]
  cases c
  ·exact q2
  ·exact q1
 | .ck c a,h,k=>by
  have h:Kf to a=true:=h
  have k: ∀ d,d∈c::Kg a->d=true:=k
  have q1:=uN h fun d hd=>k d (List.mem_cons_of_mem _ hd)
  have hc:c=true:=k c (List.mem_cons_self ..)
  subst hc
  unfold fy at*
  rw[T.I7]
  exact q1
end Go.Ab.Lf
namespace Go.Proofs.Vq
open Go.Ab Go.Ab.Lf
set_option maxRecDepth 100000
def U(z:Int):Prop:=0<=z/\z<=18446744073709551615
theorem db{α:Type}{c:Bool}{x:Option α}(h:c=true):bJ c x=x:=by rw[h];rfl
def fj(to:List Ty)(P:aG to->Prop)(v:Option (List Pl)):Prop:= ∃ y,v=some (aH to y)/\P y
theorem fj.bif{to:List Ty}{P:aG to->Prop}{c:Bool}{a b:Option (List Pl)}(h1:c=true->fj to P a)(h2:c=false->fj to P b):fj to P (bif c then a else b):=by
 cases c
 ·exact h2 rfl
 ·exact h1 rfl
theorem fj.ck{to:List Ty}{P:aG to->Prop}{c:Bool}{a:Option (List Pl)}(h:c=true)(h1:fj to P a):fj to P (bJ c a):=by rw[db h];exact h1
theorem fj.ok{to:List Ty}{P:aG to->Prop}{y:aG to}(h:P y):fj to P (some (aH to y)):=⟨y,rfl,h⟩
theorem fj.km{to:List Ty}{P:aG to->Prop}{t:Lf.T (List Pl)}{k:Bool}{m:aG to}(hk:k=fy to t)(hm:m=ej to t)(h:fj to P t.val):k=true/\P m:=by
 obtain⟨y,h1,h2⟩:=h
 obtain⟨a,b⟩:=cg hk hm h1
 exact⟨a,by rw[b];exact h2⟩
theorem pG(o:Int):CV (o,())=true/\((m11 (o,())).1=0∨(m11 (o,())).1=1∨(m11 (o,())).1=2):=by
 refine fj.km (P:=fun y:aG oH=>y.1=0∨y.1=1∨y.1=2) (ai _) (ai _) ?_
 rw[Ke]
 repeat' first
  |exact fj.ok (.inl rfl)
  |exact fj.ok (.inr (.inl rfl))
  |exact fj.ok (.inr (.inr rfl))
  |refine fj.bif (fun _=>?_) (fun _=>?_)
theorem mF(n:Int):U (ao .u64 n):=⟨Int.emod_nonneg n (by decide),by have:=Int.emod_lt_of_pos n (show(0:Int)<18446744073709551616 by decide);show n % 18446744073709551616<=_;omega⟩
theorem Pt(n:Int):U (fM .u64 n):=mF n
theorem mV(n:Int):0<=ao .u32 n/\ao .u32 n<=4294967295:=⟨Int.emod_nonneg n (by decide),by have:=Int.emod_lt_of_pos n (show(0:Int)<4294967296 by decide);show n % 4294967296<=_;omega⟩
theorem aar(n:Int):(decide (0<=ao .u32 n)&&decide (ao .u32 n<=4294967295))=true:=by
 obtain⟨a,b⟩:=mV n
 rw[decide_eq_true a,decide_eq_true b];rfl
theorem ckU{x:Int}(h:U x):(decide (0<=x)&&decide (x<=18446744073709551615))=true:=by
 rw[decide_eq_true h.1,decide_eq_true h.2];rfl
theorem Eh(a b:Nat)(ha:a<4294967296)(hb:b<4294967296):dm .u32 (a:Int) (b:Int)=((a &&& b:Nat):Int):=by
 show intOf (bif Nat.blt a 4294967296&&Nat.blt b 4294967296 then some (.int .u32 (.ofNat (Nat.land a b)))else _)=_
 rw[show(Nat.blt a 4294967296)=true by simpa using ha,show(Nat.blt b 4294967296)=true by simpa using hb]
 rfl
theorem Pu(a b:Nat)(ha:a<18446744073709551616)(hb:b<18446744073709551616):dm .u64 (a:Int) (b:Int)=((a &&& b:Nat):Int):=by
 show intOf (bif Nat.blt a 18446744073709551616&&Nat.blt b 18446744073709551616 then some (.int .u64 (.ofNat (Nat.land a b)))else _)=_
 rw[show(Nat.blt a 18446744073709551616)=true by simpa using ha,show(Nat.blt b 18446744073709551616)=true by simpa using hb]
 rfl
theorem Ei{n:Int}(h0:0<=n)(h1:n<256):bF n 256=true:=by rw[np];exact⟨h0,h1⟩
theorem C4{n:Int}(h0:0<=n)(h1:n<=4294967295):0<=dm .u32 n 255/\dm .u32 n 255<256:=by
 obtain⟨a,rfl⟩: ∃ a:Nat,n=a:=⟨n.toNat,by omega⟩
 have e:dm .u32 (a:Int) 255=((a &&& 255:Nat):Int):=Eh a 255 (by omega) (by omega)
 have:=Nat.and_le_right (n:=a) (m:=255)
 rw[e]
 omega
theorem y7(n:Int)(p:Int)(h0:0<=n)(hp:0<p):0<=Int.fdiv n p/\Int.fdiv n p<=n:=by
 rw[Int.fdiv_eq_ediv_of_nonneg _ (by omega)]
 exact⟨Int.ediv_nonneg h0 (by omega),Int.ediv_le_self _ h0⟩
theorem c51(x:Int):Kg (t51 (x,()))=[bF (lj .u32 x 24) 256&&(bF (dm .u32 (lj .u32 x 16) 255) 256&&(bF (dm .u32 (lj .u32 x 8) 255) 256&&bF (dm .u32 x 255) 256))]:=by kernel_rfl
theorem f51(x:Int):Kf JZ (t51 (x,()))=true:=by kernel_rfl
theorem Ru{x:Int}(h0:0<=x)(h1:x<=4294967295):k51 (x,())=true:=by
 refine(ai _).trans (uN (f51 x) fun c hc=>?_)
 rw[c51]at hc
 have e24:lj .u32 x 24=Int.fdiv x (2 ^ 24:Nat):=rfl
 have e16:lj .u32 x 16=Int.fdiv x (2 ^ 16:Nat):=rfl
 have e8:lj .u32 x 8=Int.fdiv x (2 ^ 8:Nat):=rfl
 have b16:=y7 x ((2 ^ 16:Nat):Int) h0 (by decide)
 have b8:=y7 x ((2 ^ 8:Nat):Int) h0 (by decide)
 have a1:bF (lj .u32 x 24) 256=true:=by
  rw[e24,Int.fdiv_eq_ediv_of_nonneg _ (by decide)]
  exact Ei (by omega) (by omega)
 have a2:bF (dm .u32 (lj .u32 x 16) 255) 256=true:=by rw[e16];have:=C4 b16.1 (by omega);exact Ei this.1 this.2
 have a3:bF (dm .u32 (lj .u32 x 8) 255) 256=true:=by rw[e8];have:=C4 b8.1 (by omega);exact Ei this.1 this.2
 have a4:bF (dm .u32 x 255) 256=true:=by have:=C4 h0 h1;exact Ei this.1 this.2
 rw[a1,a2,a3,a4]at hc
 simpa using hc
theorem f54(x:Int):Pr J1 (t54 (x,()))=true:=by kernel_rfl
theorem Rv(x:Int):k54 (x,())=true:=(ai _).trans (uM (f54 x))
theorem U0:U 0:=⟨by decide,by decide⟩
theorem U1:U 1:=⟨by decide,by decide⟩
theorem Ry(o x:Int)(hx:U x):Up (o,x,())=true/\U (m13 (o,x,())).1:=by
 refine fj.km (P:=fun y:aG ju=>U y.1) (ai _) (ai _) ?_
 rw[aap]
 refine fj.ck (pG o).1 ?_
 repeat' with_reducible first
  |refine fj.bif (fun _=>?_) (fun _=>?_)
  |refine fj.ck (aar _) ?_
  |refine fj.ck (ckU hx) ?_
  |refine fj.ck (Ru (mV _).1 (mV _).2) ?_
  |refine fj.ck (Rv _) ?_
  |exact fj.ok (P:=fun y:aG ju=>U y.1) (mF _)
  |exact fj.ok (P:=fun y:aG ju=>U y.1) U0
  |exact fj.ok (P:=fun y:aG ju=>U y.1) U1
theorem aas{x:Int}(y:Int)(h:U x):U (sY .u64 x y):=by
 obtain⟨a,rfl⟩: ∃ a:Nat,x=a:=⟨x.toNat,by have:=h.1;omega⟩
 unfold sY
 have h0:=h.2
 have h1:0<=Int.tmod (a:Int) y:=Int.tmod_nonneg _ (by omega)
 refine⟨h1,?_⟩
 have h2:Int.tmod (a:Int) y<=a:=by
  obtain⟨b,hb⟩:=Int.eq_nat_or_neg y
  rcases hb with rfl|rfl
  ·rw[<-Int.ofNat_tmod];have:=Nat.mod_le a b;omega
  ·rw[Int.tmod_neg,<-Int.ofNat_tmod];have:=Nat.mod_le a b;omega
 omega
theorem Rz{x:Int}(h:U x): ∃ a:Nat,x=a/\a<18446744073709551616:=⟨x.toNat,by have:=h.1;omega,by have:=h.2;have:=h.1;omega⟩
theorem qm{x y:Int}(hx:U x)(hy:U y):U (dm .u64 x y)/\U (IK .u64 x y)/\U (IL .u64 x y):=by
 obtain⟨a,rfl,ha⟩:=Rz hx
 obtain⟨b,rfl,hb⟩:=Rz hy
 have hh:(Nat.blt a 18446744073709551616&&Nat.blt b 18446744073709551616)=true:=by
  rw[show(Nat.blt a 18446744073709551616)=true by simpa using ha,show(Nat.blt b 18446744073709551616)=true by simpa using hb];rfl
 have e1:dm .u64 (a:Int) (b:Int)=((a &&& b:Nat):Int):=Pu a b ha hb
 have e2:IK .u64 (a:Int) (b:Int)=((a ||| b:Nat):Int):=by
  show intOf (bif Nat.blt a 18446744073709551616&&Nat.blt b 18446744073709551616 then some (.int .u64 (.ofNat (Nat.lor a b)))else _)=_
  rw[hh];rfl
 have e3:IL .u64 (a:Int) (b:Int)=((a ^^^ b:Nat):Int):=by
  show intOf (bif Nat.blt a 18446744073709551616&&Nat.blt b 18446744073709551616 then some (.int .u64 (.ofNat (Nat.xor a b)))else _)=_
  rw[hh];rfl
 have l1:a &&& b<2 ^ 64:=Nat.and_lt_two_pow _ (by omega)
 have l2:a ||| b<2 ^ 64:=Nat.or_lt_two_pow (by omega) (by omega)
 have l3:a ^^^ b<2 ^ 64:=Nat.xor_lt_two_pow (by omega) (by omega)
 rw[e1,e2,e3]
 exact⟨⟨by omega,by omega⟩,⟨by omega,by omega⟩,⟨by omega,by omega⟩⟩
theorem xO{y:Int}(hy:U y):0<=dm .u64 y 63:=(qm hy (y:=63) ⟨by decide,by decide⟩).1.1
theorem RA(y:Int):0<=dm .u32 (ao .u32 y) 31:=by
 obtain⟨h0,h1⟩:=mV y
 obtain⟨a,ha⟩: ∃ a:Nat,ao .u32 y=a:=⟨(ao .u32 y).toNat,by omega⟩
 rw[ha,show dm .u32 (a:Int) 31=((a &&& 31:Nat):Int)from Eh a 31 (by omega) (by omega)]
 omega
theorem RB{x n:Int}(hx:U x)(hn:0<=n):U (lj .u64 x n):=by
 obtain⟨k,rfl⟩: ∃ k:Nat,n=k:=⟨n.toNat,by omega⟩
 have e:lj .u64 x (k:Int)=Int.fdiv x ((2 ^ uR k 64:Nat):Int):=rfl
 have hp:(0:Int)<((2 ^ uR k 64:Nat):Int):=by have:=Nat.two_pow_pos (uR k 64);omega
 have:=y7 x _ hx.1 hp
 rw[e]
 exact⟨this.1,by have:=hx.2;omega⟩
theorem Kh{x n:Int}(hn:0<=n):U (tX .u64 x n):=by
 obtain⟨k,rfl⟩: ∃ k:Nat,n=k:=⟨n.toNat,by omega⟩
 exact Pt _
theorem RC(a b:Int):0<=aV .u64 a b:=(Pt _).1
theorem Ej{a b:Int}(h:0<=a):(decide (0<=a)&&decide (0<=aV .u64 b a))=true:=by
 rw[decide_eq_true h,decide_eq_true (RC b a)];rfl
theorem C5{y:Int}(h: ¬ ao .u32 y=0): ¬ ao .i32 (ao .u32 y)=0:=by
 obtain⟨h0,h1⟩:=mV y
 generalize ao .u32 y=z at*
 have e:ao .i32 z=(z+2147483648) % 4294967296 - 2147483648:=rfl
 omega
theorem y8{z:Int}(h0:U z)(h: ¬ z=0): ¬ ao .i64 z=0:=by
 obtain⟨h0,h1⟩:=h0
 have e:ao .i64 z=(z+9223372036854775808) % 18446744073709551616 - 9223372036854775808:=rfl
 omega
theorem xP{y:Int}(h: ¬ ao .u32 y=0): ¬ ao .i64 (ao .i32 (ao .u32 y))=0:=by
 have k:=C5 h
 obtain⟨h0,h1⟩:=mV y
 generalize ao .u32 y=z at*
 have e:ao .i32 z=(z+2147483648) % 4294967296 - 2147483648:=rfl
 have e2:ao .i64 (ao .i32 z)=(ao .i32 z+9223372036854775808) % 18446744073709551616 - 9223372036854775808:=rfl
 omega
theorem nb{p:Prop}[Decidable p](h: ¬ p):(!decide p)=true:=by rw[decide_eq_false h];rfl
end Go.Proofs.Vq
