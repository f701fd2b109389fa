import Derived.Test.YtcnkojgmochcgaaGreatDoorEnvQ
import Derived.WalkKit
import Derived.Shelf.RegionOpenPlain
import Derived.Deep.LoopGhost
import Derived.Deep.RegionLaw
import Derived.Lib.Walk
import Derived.Sort.WalkB12
import Derived.Lib.SliceRun
import Derived.Lib.SlicesDelete
namespace Go.Proofs
open Go.RowKit Go.Lib Go.Sort
set_option maxRecDepth 100000
theorem Tryz.Qh(a:Option Addr)(c:Nat)(w:World):Calls Tryz.prog 305 #[.slice a 0 c,.int .i64 0,.int .i64 0] w fun e w'=>e=.returned (.slice a 0 c)∧w'=w:=by
 have mixed:=Tryz.mixed
 go_enter Tryz.func305,Tryz.ntmps305
 go_wp2
 all_goals (go_ret;exact⟨rfl,rfl⟩)
set_option maxHeartbeats 4000000 in
set_option maxRecDepth 1000000 in
theorem Tryz.VM(sx off cap i j:Nat)(d:Array Int)(w:World)(hH:Holds (Value.int .u64) w sx off d)(q8:d.size≤cap)(hm:d.size≤9223372036854775807)(LD:i≤j)(hj:j≤d.size):
 Calls Tryz.prog 305 #[.slice (some ⟨sx,off,none⟩) d.size cap,.int .i64 i,.int .i64 j] w fun e w'=>e=.returned (.slice (some ⟨sx,off,none⟩) (d.size - (j - i)) cap)∧ ∃ q,w'=putRow (Value.int .u64) (Sort.ahead w q) sx off (d.toList.take i++d.toList.drop j++List.replicate (j - i) 0).toArray:=by
 have mixed:=Tryz.mixed
 have h1: ∀ x:Int,(Value.int .u64 x).oneCell'=true:=fun _=>rfl
 by_cases heq:i=j
 ·subst heq
  have h0:Calls Tryz.prog 305 #[.slice (some ⟨sx,off,none⟩) d.size cap,.int .i64 i,.int .i64 i] w fun e w'=>e=.returned (.slice (some ⟨sx,off,none⟩) d.size cap)∧w'=w:=by
   clear hH
   go_enter Tryz.func305,Tryz.ntmps305
   go_wp2
   all_goals (go_ret;exact⟨rfl,rfl⟩)
  refine h0.mono ?_
  rintro e w' ⟨rfl,rfl⟩
  have e:(d.toList.take i++d.toList.drop i++List.replicate (i - i) 0).toArray=d:=by simp
  refine⟨by rw[Nat.sub_self,Nat.sub_zero],0,?_⟩
  rw[e]
  exact(putRow_self (Value.int .u64) (Sort.ahead w' 0) sx off d hH).symm
 ·have fO:i<j:=by omega
  obtain⟨news,vb⟩: ∃ news,news=(d.toList.drop j).map (Value.int .u64):=⟨_,rfl⟩
  have hlen:news.length=d.size - j:=by rw[vb];simp
  have B7: ∀ t,t<d.size - j→news[t]? =some (Value.int .u64 d[j+t]!):=by
   intro t ht
   rw[vb,List.getElem?_map,List.getElem?_drop,Array.getElem?_toList,getElem!_pos d (j+t) (by omega),Array.getElem?_eq_getElem (by omega)]
   rfl
  obtain⟨A,hA,Sz⟩: ∃ A:Addr,(if cap=j then some (⟨sx,off,none⟩:Addr)else some ⟨sx,off+j,none⟩)=some A∧Hid (∀ t u,news[t]? =some u→w.drew.cell? (A.add t)=some u):=by
   by_cases h:cap=j
   ·refine⟨⟨sx,off,none⟩,by simp[h],fun t u hu=>?_⟩
    have h0:news.length=0:=by rw[hlen];omega
    rw[List.length_eq_zero_iff.1 h0]at hu
    simp at hu
   ·refine⟨⟨sx,off+j,none⟩,by simp[h],fun t u hu=>?_⟩
    have ht:t<d.size - j:=by
     have:=(List.getElem?_eq_some_iff.1 hu).1
     rwa [hlen]at this
    rw[B7 t ht]at hu
    rw[Addr.add_lit,show off+j+t=off+(j+t) by omega]
    exact(hH (j+t) (by omega)).1.trans hu
  have s1:Hid (news.length=(d.size - j)*1):=by rw[Nat.mul_one];exact hlen
  have s2:Hid (∀ u∈news,u.oneCell'=true):=by
   intro u hu
   rw[vb]at hu
   obtain⟨x,_,rfl⟩:=List.mem_map.1 hu
   exact h1 x
  have s3:Hid (∀ t,t<news.length→(w.drew.cell? ⟨sx,off+i*1+t,none⟩).isSome=true∧w.drew.frozen? ⟨sx,off+i*1+t,none⟩=false):=by
   intro t ht
   rw[hlen]at ht
   rw[Nat.mul_one,Nat.add_assoc]
   exact⟨by show(w.cell? _).isSome=true;rw[(hH (i+t) (by omega)).1];rfl,(hH (i+t) (by omega)).2⟩
  obtain⟨W1,hW1⟩: ∃ W1,W1=w.drew.setCells sx (off+i*1) news:=⟨_,rfl⟩
  have VN:W1=putRow (Value.int .u64) (Sort.ahead w 1) sx off (lay d i (d.toList.drop j)):=by
   rw[hW1,vb,Nat.mul_one,←putRow_setCells (Value.int .u64) (Sort.ahead w 1) sx off _ d i (by simp;omega),putRow_self (Value.int .u64) (Sort.ahead w 1) sx off d (holds_ahead (Value.int .u64) w 1 sx off d hH)]
   rfl
  have XP:Holds (Value.int .u64) W1 sx off (lay d i (d.toList.drop j)):=by rw[VN];exact holds_putRow (Value.int .u64) _ sx off d _ (holds_ahead (Value.int .u64) w 1 sx off d hH) (lay_size _ _ _)
  have fF: ∀ ty,(Builtin.clear_ #[24] ty #[.slice (some ⟨sx,off+(i+(d.size - j)),none⟩) (d.size - (i+(d.size - j))) (cap - (i+(d.size - j)))]).run Tryz.prog W1=.ok (.tuple #[]) (W1.setCells sx (off+(i+(d.size - j))) (List.replicate (d.size - (i+(d.size - j))) (Value.int .u64 0))):=
   fun ty=>Lib.run_clear_slice W1 _ _ ty _ Tryz.underlying24 Tryz.zeroValue22 rfl rfl sx (off+(i+(d.size - j))) _ _ (by omega) (fun t ht=>by rw[show off+(i+(d.size - j))+t=off+(i+(d.size - j)+t) by omega,(XP _ (by rw[lay_size];omega)).1];rfl) (fun t ht=>by rw[show off+(i+(d.size - j))+t=off+(i+(d.size - j)+t) by omega];exact(XP _ (by rw[lay_size];omega)).2)
  have X:Aside (W1=putRow (Value.int .u64) (Sort.ahead w 1) sx off (lay d i (d.toList.drop j))):=VN
  have hW:Hid (W1=w.drew.setCells sx (off+i*1) news):=hW1
  have hic:i≤cap:=by omega
  have yq:j≤cap:=by omega
  have hi0: ∃ i0,Tryz.prog.info? 22=some i0∧i0.size=1:=by
   have:(Tryz.prog.info? 22).map (·.size)=some 1:=by kernel_rfl
   cases h:Tryz.prog.info? 22 with
   |none=>rw[h]at this;cases this
   |some i0=>rw[h]at this;exact⟨i0,rfl,by simpa using this⟩
  obtain⟨i0,hi0,hz1⟩:=hi0
  clear hW1 VN XP hH B7 vb hlen
  go_enter Tryz.func305,Tryz.ntmps305
  go_wp2_with fail
  go_region_law_o (refine step_append_room rfl (.tmp 22) (.tmp 25) 24 rfl 22 i0 1 Tryz.underlying24 hi0 hz1 sx off i cap (by simp[Act.eval,Act.put]) A (d.size - j) (cap - j) news (by simp[Act.eval,Act.put]) s1.out Sz.out s2.out (by omega) s3.out ?_;rw[←hW.out])
  go_wp2
  go_ret
  refine⟨by rw[show d.size - (j - i)=i+(d.size - j) by omega];rfl,1,?_⟩
  rw[←delete_arr d i j 0 LD hj,←putRow_setCells (Value.int .u64) _ sx off _ _ (i+(d.size - j)) (by rw[lay_size];simp;omega),←X.out,List.map_replicate,show d.size - (i+(d.size - j))=j - i by omega]
end Go.Proofs
