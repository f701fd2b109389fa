import Derived.Test.YtooeifemoidnoaaDoorVdU2
noncomputable section
variable {V:ByteArray→Bool}{cal:Go.Ab.Lf.CallN}
namespace Go.Proofs.Vd
open Go.Ab Go.Ab.Lf
set_option maxRecDepth 100000
def s7:Fsp:=mkF .nil [] (Ps [.bo]) [] [.bool] fun _=>.ok (true,())
structure WorldL(V:ByteArray->Bool)(cal:CallN):Prop extends WorldN V cal where
 aw:s7.Ok 7 cal
abbrev ti120:List Ty:=[.sli i64,i64,i64]
abbrev to120_0:List Ty:=[i64]
def l120:Lop:=⟨0,lpOf Tryd.x12.code 0,[0,3,4],(Ps [.im i64,.n .i64,.n .i64]),[⟨.brk,[3],Ps [.n .i64]⟩]⟩
def e120:List (Nat×Fsp):=[]
theorem e120_ok(W:WorldL V cal):EnOk cal (e120):=.nil
def f120:List Pl->Lf.T Rs:=l120.step (fun _=>none) (inD (e120) 3) 3
def c120:CdR:=mkL1 l120 (f120) ti120 to120_0
theorem c120_ok(W:WorldL V cal):SimD Rx.w (c120) (fun n d=>aCd (cal n d) n (.bl 0 (.lp l120.body))):=mkL1_ok (W.toWorld.in (e120_ok W) 3) (okL_none _) (m:=3) ti120 to120_0
def L12:Nat->Option CdR:=pcL [(0,c120)]
abbrev ti12:List Ty:=[.sli i64]
abbrev to12:List Ty:=[i64]
def e12:List (Nat×Fsp):=[]
theorem e12_ok(W:WorldL V cal):EnOk cal (e12):=.nil
def t12(x:denT ti12):Lf.T (List Pl):=fnT (Ps [.im i64]) [] (Ps [.n .i64]) L12 Tryd.x12 3 (inD (e12) 3) (ofT ti12 x)
def k12(x:denT ti12):Bool:=okV1 to12 (t12 x)
def m12(x:denT ti12):denT to12:=outV1 to12 (t12 x)
def s12:Fsp:=mkF (Ps [.im i64]) [] (Ps [.n .i64]) ti12 to12 fun x=>.ck (k12 x) (.ok (m12 x))
theorem s12_ok(W:WorldL V cal):(s12).Ok 12 cal:=
 auto_ok (W.toWorld.in (e12_ok W) 3) (W.toWorld.st 12 _ rfl) rfl (PcOk.okL (.cons (b:=l120.body) (by kernel_rfl) (c120_ok W) .nil)) (m:=3) rfl (fun _=>rfl) (fun _=>rfl)
abbrev ti3x:List Ty:=[.sli tMk,.sli tI,i64,.sli i64,.sli i64]
abbrev to3x_0:List Ty:=[.sli tMk,.sli i64,.sli i64]
abbrev to3x_1:List Ty:=[.bool]
def l3x:Lop:=⟨0,lpOf Tryd.x3.code 0,[5,9,10,7],(Ps [.im tMk,.im tI,.n .i64,.pt 0 (Ps [.im i64,.im i64])]),[⟨.brk,[5,7],Ps [.im tMk,.pt 0 (Ps [.im i64,.im i64])]⟩,⟨.rt,[4],Ps [.bo]⟩]⟩
def e3x:List (Nat×Fsp):=[(11,s11),(12,s12)]
theorem e3x_ok(W:WorldL V cal):EnOk cal (e3x):=(.cons (s11_ok W.toWorld) (.cons (s12_ok W) .nil))
def f3x:List Pl->Lf.T Rs:=l3x.step (fun _=>none) (inD (e3x) 3) 3
def c3x:CdR:=mkL2 l3x (f3x) ti3x to3x_0 to3x_1
theorem c3x_ok(W:WorldL V cal):SimD Rx.w (c3x) (fun n d=>aCd (cal n d) n (.bl 0 (.lp l3x.body))):=mkL2_ok (W.toWorld.in (e3x_ok W) 3) (okL_none _) (m:=3) ti3x to3x_0 to3x_1
def L3:Nat->Option CdR:=pcL [(0,c3x)]
abbrev ti3:List Ty:=[.sli tSig,.sli tImp,.sli i64,.sli tLim,.sli tLim,.sli tGlo,.sli tExp,i64,.sli tEle,.sli tCod,.sli tDat,i64]
abbrev to3:List Ty:=[.bool]
def e3(V:ByteArray->Bool):List (Nat×Fsp):=[(7,s7),(8,s8 V),(9,s9 V),(10,s10),(12,s12)]
theorem e3_ok(W:WorldL V cal):EnOk cal (e3 V):=(.cons W.aw (.cons (s8_ok W.toWorldN) (.cons (s9_ok W.toWorldN) (.cons (s10_ok W.toWorldC) (.cons (s12_ok W) .nil)))))
def t3(V:ByteArray->Bool)(x:denT ti3):Lf.T (List Pl):=fnT (Ps [pM,.n .i64]) [] (Ps [.bo]) L3 Tryd.x3 3 (inD (e3 V) 3) (ofT ti3 x)
def kq3(V:ByteArray->Bool)(x:denT ti3):Bool:=okV1 to3 (t3 V x)
def m3(V:ByteArray->Bool)(x:denT ti3):denT to3:=outV1 to3 (t3 V x)
def s3(V:ByteArray->Bool):Fsp:=mkF (Ps [pM,.n .i64]) [] (Ps [.bo]) ti3 to3 fun x=>.ck (kq3 V x) (.ok (m3 V x))
theorem s3_ok(W:WorldL V cal):(s3 V).Ok 3 cal:=
 auto_ok (W.toWorld.in (e3_ok W) 3) (W.toWorld.st 3 _ rfl) rfl (PcOk.okL (.cons (b:=l3x.body) (by kernel_rfl) (c3x_ok W) .nil)) (m:=3) rfl (fun _=>rfl) (fun _=>rfl)
end Go.Proofs.Vd
