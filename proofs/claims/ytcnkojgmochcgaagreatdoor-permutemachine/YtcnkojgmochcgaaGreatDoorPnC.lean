import Derived.Test.YtcnkojgmochcgaaGreatDoorPnA
import Derived.Test.YtcnkojgmochcgaaGreatDoorPv0
import Derived.Test.YtcnkojgmochcgaaGreatDoorPw0
import Derived.Test.YtcnkojgmochcgaaGreatDoorPv1
import Derived.Test.YtcnkojgmochcgaaGreatDoorPw1
import Derived.Test.YtcnkojgmochcgaaGreatDoorPv2
import Derived.Test.YtcnkojgmochcgaaGreatDoorPw2
import Derived.Test.YtcnkojgmochcgaaGreatDoorPv3
import Derived.Test.YtcnkojgmochcgaaGreatDoorPw3
import Derived.Test.YtcnkojgmochcgaaGreatDoorPv4
import Derived.Test.YtcnkojgmochcgaaGreatDoorPw4
import Derived.Test.YtcnkojgmochcgaaGreatDoorPv5
import Derived.Test.YtcnkojgmochcgaaGreatDoorPw5
import Derived.Test.YtcnkojgmochcgaaGreatDoorPv6
import Derived.Test.YtcnkojgmochcgaaGreatDoorPw6
import Derived.Test.YtcnkojgmochcgaaGreatDoorPx4
import Derived.Test.YtcnkojgmochcgaaGreatDoorPx7
noncomputable section
namespace Go.Proofs.Vq
open Go.Ab Go.Ab.Lf Go.Proofs.Sw
set_option maxRecDepth 1000000
def ysP:List Nat:=[64780,64781,64782,64783,64784,64785,64786,64789,64790,64791,64792,64793,64794,64795,64796,64797,64798,64869,64870,64892,64893,64894,64895,64898,64901,64902,64903,64904,64905,64906,64924,64925,64926,64927,64935,64936,64937,64938,64954,64956,64957,64958,64959,64967,64968,64969,64970,64988,64989,64990,64991]
theorem ag5:AlO LwA ysP:=.cons (fun g A B _ _ L a b c d hl hh ha hb hc hd=>.inl (WB A B hl hh L g a b c d ha hb hc hd))<| .cons (fun g A B lo hi L a b c d _ _ ha hb hc hd=>.inr (.inl (ag4 A B lo hi L g a b c d ha hb hc hd)))<| .cons (.p Wc)<| .cons (.p WV)<| .cons (.p WA)<| .cons (.p WW)<| .cons (.p WL)<| .cons (.a Wi QF)<| .cons (.a Ws QH)<| .cons (.a V8 QI)<| .cons (.a WJ QJ)<| .cons (.a WU QL)<| .cons (.a Wz QK)<| .cons (.a Wj QN)<| .cons (.a WK QM)<| .cons (.a WX QG)<| .cons (.a Wt QO)<| .cons (.p V4)<| .cons (.p V9)<| .cons (.p WG)<| .cons (.p WR)<| .cons (.p V6)<| .cons (.p Wa)<| .cons (.p Wu)<| .cons (.p We)<| .cons (.p Wk)<| .cons (.p Wm)<| .cons (.p Wx)<| .cons (.p WH)<| .cons (.p WS)<| .cons (.p WC)<| .cons (.p WM)<| .cons (.p WD)<| .cons (.p WN)<| .cons (.p Wo)<| .cons (.p Wy)<| .cons (.p V7)<| .cons (.p Wb)<| .cons (.p Wg)<| .cons (.p Wv)<| .cons (.p WE)<| .cons (.p WO)<| .cons (.p V5)<| .cons (.p Wh)<| .cons (.p WI)<| .cons (.p WT)<| .cons (.p Wr)<| .cons (.p V')<| .cons (.p Wf)<| .cons (.p Wl)<| .cons (.p Ww)<| .nil
def yP(v:Nat):Bool:=ysP.any (fun o=>Nat.beq o (64768+v))||nIs (64768+v)
theorem ami:(List.range 256).all yP=true:=by kernel_rfl
theorem atV(g:Cg)(op A B:Int)(lo hi:Nat)(L:List Int)(a b c d:Nat)(h0: -9223372036854775808<=op)(h1:op<9223372036854775808)(hl:lo<nh)(hh:hi<nh)(ha:a<nh)(hb:b<nh)(hc:c<nh)(hd:d<nh):abQ (g1 g) (op,A,B,(lo:Int),(hi:Int),L,(a:Int),(b:Int),(c:Int),(d:Int),()):=by
 have no: ∀ o:Int,k37 (o,())=true/\(m37 (o,())).1=false->abQ (g1 g) (o,A,B,(lo:Int),(hi:Int),L,(a:Int),(b:Int),(c:Int),(d:Int),()):=fun o ⟨k,m⟩=>.inr (.inr (.inl (by rw[atO,k,m];rfl)))
 by_cases q:op<64768
 ·obtain⟨k,m⟩:=ag2 h0 h1 q
  exact .inr (.inr (.inr (by rw[al3,k,m];rfl)))
 ·by_cases r:65024<=op
  ·exact no op (ag1 h0 h1 r)
  ·obtain⟨v,rfl,hv⟩: ∃ v:Nat,op=((64768+v:Nat):Int)/\v<256:=⟨(op - 64768).toNat,by omega,by omega⟩
   have h:=List.all_eq_true.1 ami v (List.mem_range.2 hv)
   unfold yP at h
   rw[Bool.or_eq_true]at h
   rcases h with h|h
   ·obtain⟨o,m1,m2⟩:=List.any_eq_true.1 h
    rw[<-Nat.eq_of_beq_eq_true m2]
    exact ag5.get o m1 g A B lo hi L a b c d hl hh ha hb hc hd
   ·exact no _ (ag3 h)
end Go.Proofs.Vq
