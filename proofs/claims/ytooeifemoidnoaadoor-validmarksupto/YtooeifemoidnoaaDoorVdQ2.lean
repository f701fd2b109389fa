import Derived.Test.YtooeifemoidnoaaDoorVdQ1
import Derived.Lib.LaidU8T
noncomputable section
namespace Go.Proofs.Vd
open Go.Ab Go.Ab.Lf Go.RowKit
set_option maxRecDepth 100000
theorem Tryd.u8x:U8Extra Tryd.prog Tryd.ren66:=⟨by kernel_rfl,by kernel_rfl,by kernel_rfl,by kernel_rfl,by kernel_rfl,by kernel_rfl,by kernel_rfl⟩
theorem tbOk_of{W:Go.World}(h:Lib.Utf8Tabs 0 1 W): @TbOk ioV (@gI ioV W) W:=by
 intro p hp
 have key: ∀ (b:Nat) (vs:List Value),vs≠[]->(∀ j v,vs[j]? =some v->W.cell? ⟨b,j,none⟩=some v)->(@gI ioV W).imm b/\CellsAt W b 0 vs:=fun b vs h0 hc=>by
  have q:CellsAt W b 0 vs:=fun j v e=>by rw[Nat.zero_add];exact hc j v e
  refine⟨?_,q⟩
  match vs,h0 with
  |v::vs,_=>exact cell_lt' (hc 0 v rfl)
 have hp:p∈[(0,(List.range 256).map fun c=>Value.int .u8 (Lib.firstT c)),(1,(List.range 32).map fun c=>Value.int .u8 (if c % 2=0 then Lib.accLo (c / 2)else Lib.accHi (c / 2)))]:=hp
 rcases List.mem_cons.1 hp with rfl|hp
 ·refine key 0 _ (by simp) fun j v e=>?_
  rw[List.getElem?_map,Option.map_eq_some_iff]at e
  obtain⟨n,hn,rfl⟩:=e
  obtain⟨q1,q2⟩:=List.getElem?_eq_some_iff.1 hn
  rw[List.length_range]at q1
  rw[List.getElem_range]at q2
  subst q2
  exact h.1 j q1
 ·obtain rfl:p=_:=by simpa using hp
  refine key 1 _ (by simp) fun j v e=>?_
  rw[List.getElem?_map,Option.map_eq_some_iff]at e
  obtain⟨n,hn,rfl⟩:=e
  obtain⟨q1,q2⟩:=List.getElem?_eq_some_iff.1 hn
  rw[List.length_range]at q1
  rw[List.getElem_range]at q2
  subst q2
  have hj:=h.2 (j / 2) (by omega)
  by_cases e:j % 2=0
  ·rw[if_pos e]
   have:=hj.1
   rwa [show 2*(j / 2)=j by omega]at this
  ·rw[if_neg e]
   have:=hj.2
   rwa [show 2*(j / 2)+1=j by omega]at this
theorem law3_all{W:Go.World}{X:den tMod}{cells:List AV}{cs:Array Value}(hE:okE vU (yOf X)=true)(hx:gNx (yOf X).2.2.2.2.2.2.1=true)(hn:(yOf X).2.2.2.2.2.2.2.2.2.1.length<=1048576)(f:Int)(h:EV N0 tMod X cells)(hv: @VRs ioV (@gI ioV W) W cells cs.toList)(hT:Lib.Utf8Tabs 0 1 W):
 Calls Tryd.prog 3 #[.agg cs,.int .i64 f] W fun e W'=>e=.returned (.bool true)/\Below W.heap.size W W':=by
 obtain⟨n,hn⟩:=law3_at hE hx hn f (mat_of f h)
 refine @law_ok ioV Tryd.prog _ (@Tryd.calT_ok ioV _ tbB_ok n n) 3 _ [.agg cs,.int .i64 f] hn W (fun b=>b<W.heap.size) (fun b h=>h) (tbOk_of hT) ?_
 simp only[VRs]
 refine⟨_,_,rfl,?_,_,_,rfl,by simp only[VR],rfl⟩
 rw[VR]
 exact⟨_,rfl,hv⟩
end Go.Proofs.Vd
