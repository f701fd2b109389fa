import Derived.Test.YtooeifemoidnoaaDoorEnvD
import Derived.Test.YtooeifemoidnoaaDoorVdMd
import Derived.WalkKit
import Derived.Lib.Walk
import Derived.Lib.SliceRun
import Derived.Maps.OwnOps
import Derived.Maps.Views
import Derived.StillTactics
import Derived.StringKeys
noncomputable section
namespace Go.Proofs
open Go.RowKit Go.Maps Go.WideMaps
set_option maxRecDepth 100000
theorem Tryd.keyL:Keyed Tryd.prog 9:=string_keyed Tryd.underlying9
theorem Tryd.zero3(w:World):(zeroValue 3).run Tryd.prog w=.ok (.int .i64 0) w:=by kernel_rfl
attribute [local irreducible] wpStill
theorem wf_i64{n:Int}(h1: -9223372036854775808<=n)(h2:n<9223372036854775808):(Lit.int .i64 n).wf=true:=by
 show(decide ((-9223372036854775808:Int)<=n)&&decide (n<=(9223372036854775807:Int)))=true
 rw[decide_eq_true h1,decide_eq_true (by omega)]
 rfl
def Hid(p:Prop):Prop:=p
theorem Hid.mk{p:Prop}(h:Hid p):p:=h
theorem heap_alloc_new(w:World)(o:Obj){i:Nat}(h:i=w.heap.size):(w.alloc o).heap[i]? =some o:=by subst h;exact Array.getElem?_push_size
theorem heap_alloc_old(w:World)(o:Obj){i:Nat}(h:i<w.heap.size):(w.alloc o).heap[i]? =w.heap[i]? :=Below.heap_alloc _ _ _ h
section
variable {P:Program}{ops:Array Oper}{w:World}{Q:Act->Prop}{a:Act}{o:Oper}{rest:List Oper}
end
def NmR(D:DataW Unit)(ns:List ByteArray):Prop:=IsMap D/\ ∀ s:ByteArray,∀ c:Int,D.atKey (.string s.data.toList) (.lit (.int .i64 0))=.lit (.int .i64 c)->(0<c↔s∈ns)
theorem nmAll_false{cs:List Int}{xs:List Nx}{k:Nat}(hk:k<xs.length)(h:nmOk cs xs k=false):nmAll cs xs=false:=by
 cases e:nmAll cs xs with
 |false=>rfl
 |true=>rw[List.all_eq_true.1 e k (List.mem_range.2 hk)]at h;cases h
theorem nmAll_true{cs:List Int}{xs:List Nx}(h: ∀ k,k<xs.length->nmOk cs xs k=true):nmAll cs xs=true:=List.all_eq_true.2 fun k hk=>h k (List.mem_range.1 hk)
theorem nmR_nil:NmR (.map []) []:=⟨⟨[],rfl⟩,fun s c h=>by
 have h:(DataW.lit (.int .i64 0):DataW Unit)=.lit (.int .i64 c):=h
 cases h
 simp⟩
theorem data_inj{s t:ByteArray}(h:s.data.toList=t.data.toList):s=t:=by
 cases s;cases t
 simp only[ByteArray.mk.injEq]
 exact Array.toList_inj.1 h
theorem nmR_put{D:DataW Unit}{ns:List ByteArray}{s:ByteArray}{k:Nat}(h:NmR D ns):NmR (D.put (.string s.data.toList) (.lit (.int .i64 ((k:Int)+1)))) (ns++[s]):=by
 obtain⟨h1,h2⟩:=h
 refine⟨?_,fun t c hc=>?_⟩
 ·obtain⟨l,e⟩:=h1
  rw[e]
  exact⟨_,rfl⟩
 ·by_cases e:t=s
  ·subst e
   rw[atKey_put_same h1 (by trivial)]at hc
   injection hc with hc
   injection hc with _ hc
   simp
   omega
  ·rw[atKey_put_other (fun q=>e (data_inj (by injection q)))]at hc
   rw[h2 t c hc]
   simp[e]
set_option maxHeartbeats 4000000 in
theorem Tryd.names_any(t im fs co da el:Value)(tb me gl aex:Option Addr)(ntb ctb nme cme ngl cgl:Nat)(st fn:Int)(b off cex:Nat)(xs:List Nx)(w:World)
 (hex:xs.length≠0->aex=some ⟨b,off,none⟩)(hb:xs.length≠0->b<w.heap.size)(hx:xs.length<=1048576)
 (hc: ∀ j,j<xs.length->w.cell? ⟨b,off+j*3,none⟩=some (.string (xs.getD j (ByteArray.empty,0,0)).1)/\w.cell? ⟨b,off+j*3+1,none⟩=some (.int .i64 (xs.getD j (ByteArray.empty,0,0)).2.1)/\w.cell? ⟨b,off+j*3+2,none⟩=some (.int .i64 (xs.getD j (ByteArray.empty,0,0)).2.2))
 (hz: ∀ x:Nx,x∈xs->x.1.size<=maxLen/\0<=x.2.1/\x.2.1<=3)(sg:Bool)
 (hSig: ∀ w',Below w.heap.size w w'->Calls Tryd.prog 10 #[.agg #[t,im,fs,.slice tb ntb ctb,.slice me nme cme,.slice gl ngl cgl,.slice aex xs.length cex,.int .i64 st,el,co,da],.int .i64 st] w' fun e w''=> ∃ (a1:Option Addr) (n1 c1:Nat) (a2:Option Addr) (n2 c2:Nat) (o:Bool),e=.returned (.tuple #[.agg #[.slice a1 n1 c1,.slice a2 n2 c2],.bool o])/\sg=(o&&(decide (n1=0)&&decide (n2=0)))/\Below w'.heap.size w' w''):
 Calls Tryd.prog 57 #[.agg #[t,im,fs,.slice tb ntb ctb,.slice me nme cme,.slice gl ngl cgl,.slice aex xs.length cex,.int .i64 st,el,co,da],.int .i64 fn] w fun e w'=>e=.returned (.bool (nmAll [fn,(ntb:Int),nme,ngl] xs&&(decide (st= -1)||sg)))/\Below w.heap.size w w':=by
 have mixed:=Tryd.mixed
 have hmm:= @run_makeMap Tryd.prog
 obtain⟨W1,hW1⟩: ∃ W1,W1=(w.alloc (.cells #[t,im,fs,.slice tb ntb ctb,.slice me nme cme,.slice gl ngl cgl,.slice aex xs.length cex,.int .i64 st,el,co,da] 32)).alloc (.cells #[.int .i64 fn,.int .i64 ntb,.int .i64 nme,.int .i64 ngl] 137):=⟨_,rfl⟩
 have hB1:Below w.heap.size w W1:=by rw[hW1];exact((Below.refl _ _).alloc (Nat.le_refl _) _).alloc (by simp) _
 have hs1:W1.heap.size=w.heap.size+1+1:=by rw[hW1];simp
 have hb1:W1.heap[w.heap.size+1]? =some (.cells #[.int .i64 fn,.int .i64 ntb,.int .i64 nme,.int .i64 ngl] 137 (0,0)):=by rw[hW1];exact heap_alloc_new _ _ (by simp)
 have hb0:W1.heap[w.heap.size]? =some (.cells #[t,im,fs,.slice tb ntb ctb,.slice me nme cme,.slice gl ngl cgl,.slice aex xs.length cex,.int .i64 st,el,co,da] 32 (0,0)):=by rw[hW1];exact(heap_alloc_old _ _ (by simp)).trans (heap_alloc_new _ _ rfl)
 have hC: ∀ j,j<4->W1.cell? ⟨w.heap.size+1,j,none⟩=some (.int .i64 ([fn,(ntb:Int),nme,ngl].getD j 0)):=by
  intro j hj
  unfold World.cell?
  simp only[hb1]
  match j,hj with
  |0,_=>rfl
  |1,_=>rfl
  |2,_=>rfl
  |3,_=>rfl
 have hP0:W1.cell? ⟨w.heap.size,0,none⟩=some (t):=by unfold World.cell?;simp only[hb0];rfl
 have hP1:W1.cell? ⟨w.heap.size,1,none⟩=some (im):=by unfold World.cell?;simp only[hb0];rfl
 have hP2:W1.cell? ⟨w.heap.size,2,none⟩=some (fs):=by unfold World.cell?;simp only[hb0];rfl
 have hP3:W1.cell? ⟨w.heap.size,3,none⟩=some (.slice tb ntb ctb):=by unfold World.cell?;simp only[hb0];rfl
 have hP4:W1.cell? ⟨w.heap.size,4,none⟩=some (.slice me nme cme):=by unfold World.cell?;simp only[hb0];rfl
 have hP5:W1.cell? ⟨w.heap.size,5,none⟩=some (.slice gl ngl cgl):=by unfold World.cell?;simp only[hb0];rfl
 have hP6:W1.cell? ⟨w.heap.size,6,none⟩=some (.slice aex xs.length cex):=by unfold World.cell?;simp only[hb0];rfl
 have hP7:W1.cell? ⟨w.heap.size,7,none⟩=some (.int .i64 st):=by unfold World.cell?;simp only[hb0];rfl
 have hP8:W1.cell? ⟨w.heap.size,8,none⟩=some (el):=by unfold World.cell?;simp only[hb0];rfl
 have hP9:W1.cell? ⟨w.heap.size,9,none⟩=some (co):=by unfold World.cell?;simp only[hb0];rfl
 have hP10:W1.cell? ⟨w.heap.size,10,none⟩=some (da):=by unfold World.cell?;simp only[hb0];rfl
 go_enter Tryd.func57,Tryd.ntmps57
 go_wp2
 go_loopw [26] (fun i wr=> ∃ k:Nat,∃ D,k<=xs.length/\i=.int .i64 k/\wr.ownsMap Tryd.prog 9 (plainElem (H:=Unit) Tryd.prog 3) (w.heap.size+1+1) k D/\NmR D ((xs.take k).map Prod.fst)/\(∀ j,j<k->nmOk [fn,(ntb:Int),nme,ngl] xs j=true)/\Below (w.heap.size+1+1) W1 wr) (fun i _=>xs.length - (Go.RowKit.intOf i).toNat)
 case atStart=>
  refine⟨0,.map [],Nat.zero_le _,rfl,?_,?_,?_,?_⟩
  ·have:=World.ownsMap_made W1 Tryd.prog 9 (plainElem (H:=Unit) Tryd.prog 3)
   rw[hs1,hW1]at this
   exact this
  ·exact nmR_nil
  ·intro j hj;omega
  ·rw[<-hW1]
   exact(Below.refl _ _).alloc (by omega) _
 case round=>
  obtain⟨k,D,hk,rfl,hown,hD,hO,hB⟩:=hrel
  obtain⟨x,hxx⟩: ∃ x:Nx,x=xs.getD k (ByteArray.empty,0,0):=⟨_,rfl⟩
  obtain⟨s,kd,ix⟩:=x
  by_cases hlt:k<xs.length
  ·obtain rfl:=hex (by omega)
   have hb:=hb (by omega)
   have hm:((s,kd,ix):Nx)∈xs:=by
    rw[hxx,List.getD_eq_getElem?_getD,List.getElem?_eq_getElem (by omega)]
    exact List.getElem_mem _
   obtain⟨z1,z2,z3⟩:=hz _ hm
   obtain⟨kd,rfl⟩: ∃ q:Nat,kd=q:=⟨kd.toNat,by simp only at z2;omega⟩
   have z4:kd<4:=by simp only at z3;omega
   have z5:(kd:Int)<4:=by omega
   obtain⟨c0,c1,c2⟩:=hc k hlt
   rw[<-hxx]at c0 c1 c2
   have hold: ∀ o,wr.cell? ⟨b,o,none⟩=w.cell? ⟨b,o,none⟩:=fun o=>(hB.cell (by show b<_;omega)).trans (hB1.cell (by exact hb))
   rw[<-hold]at c0 c1 c2
   have hq:wr.cell? ⟨w.heap.size+1,kd,none⟩=some (.int .i64 ([fn,(ntb:Int),nme,ngl].getD kd 0)):=(hB.cell (by exact Nat.lt_succ_self _)).trans (hC kd z4)
   have hkey:keyOf Tryd.prog 9 (.string s)=some (.string s.data.toList):=keyOf_string_mk Tryd.underlying9 z1
   have hnm: ∀ cc:Int,(0<cc↔s∈(xs.take k).map Prod.fst)->nmOk [fn,(ntb:Int),nme,ngl] xs k=(!decide (0<cc)&& !decide ([fn,(ntb:Int),nme,ngl].getD kd 0<=ix)):=by
    intro cc hcc
    unfold nmOk
    rw[<-hxx]
    simp only[memB_eq hcc,Int.toNat_natCast]
   have hns:(xs.take (k+1)).map Prod.fst=(xs.take k).map Prod.fst++[s]:=by
    rw[List.take_add_one,List.map_append]
    have:xs[k]? =some (s,(kd:Int),ix):=by
     rw[hxx,List.getD_eq_getElem?_getD,List.getElem?_eq_getElem (by omega)]
     rfl
    rw[this]
    rfl
   obtain⟨W2,hW2⟩: ∃ W2,W2=(wr.alloc (.cells #[.string s,.int .i64 kd,.int .i64 ix] 84)).drew:=⟨_,rfl⟩
   have hB2:Below wr.heap.size wr W2:=by rw[hW2];exact((Below.refl _ _).alloc (Nat.le_refl _) _).trans ⟨rfl,rfl,rfl,Nat.le_refl _,fun _ _=>rfl⟩
   have hown2:W2.ownsMap Tryd.prog 9 (plainElem (H:=Unit) Tryd.prog 3) (w.heap.size+1+1) k D:=by rw[hW2];exact(hown.alloc _).drew
   have hb2:W2.heap[wr.heap.size]? =some (.cells #[.string s,.int .i64 kd,.int .i64 ix] 84 (0,0)):=by rw[hW2];exact heap_alloc_new wr _ rfl
   have d0:W2.cell? ⟨wr.heap.size,0,none⟩=some (.string s):=by unfold World.cell?;simp only[hb2];rfl
   have d1:W2.cell? ⟨wr.heap.size,1,none⟩=some (.int .i64 kd):=by unfold World.cell?;simp only[hb2];rfl
   have d2:W2.cell? ⟨wr.heap.size,2,none⟩=some (.int .i64 ix):=by unfold World.cell?;simp only[hb2];rfl
   have hl:=hB.size
   have dq:W2.cell? ⟨w.heap.size+1,kd,none⟩=some (.int .i64 ([fn,(ntb:Int),nme,ngl].getD kd 0)):=(hB2.cell (by show w.heap.size+1<_;omega)).trans hq
   generalize [fn,(ntb:Int),nme,ngl].getD kd 0=cn at dq hq hnm
   obtain⟨c,hrun,hat,_⟩:=hown2.lookup_int Tryd.keyL Tryd.underlying138 Tryd.underlying3 (Tryd.zero3 _) hkey
   have hcs:=hD.2 s c hat
   have hroom:k<maxLen:=by unfold maxLen;omega
   have hBa:Below w.heap.size w W2:=(hB1.trans (hB.mono (by omega))).trans (hB2.mono (by omega))
   have hnm:=hnm c hcs
   clear hold hc hz hxx hcs
   go_wp2
   refine wp_region_still_lit mixed (by kernel_rfl) ?_
   show wpStill _ _ (World.drew _) (fun a'=>Exit.then _ _ _ a' (World.drew _)) _ _
   rw[<-hW2]
   clear hW2
   by_cases hcp:(0:Int)<c
   ·repeat still_step
    refine wpStill_nil ?_
    go_wp2
    go_ret
    refine⟨?_,hBa⟩
    rw[nmAll_false (k:=k) (by omega) ?_]
    ·rfl
    ·rw[hnm,decide_eq_true hcp]
     rfl
   ·by_cases hge:cn<=ix
    ·repeat still_step
     refine wpStill_nil ?_
     go_wp2
     go_ret
     refine⟨?_,hBa⟩
     rw[nmAll_false (k:=k) (by omega) ?_]
     ·rfl
     ·rw[hnm,decide_eq_true hge,Bool.not_true,Bool.and_false]
    repeat still_step
    refine wpStill_nil ?_
    go_wp2_with (first
     |(at_mapUpdate;refine Hid.mk ?_)
     |go_in)
    ·unfold Hid
     refine wpList_mapUpdate_own _ rfl _ _ _ 138 rfl 9 3 Tryd.keyL Tryd.underlying138 (plainElem (H:=Unit) Tryd.prog 3) (w.heap.size+1+1) k _ rfl hown2 hroom _ _ _ rfl rfl hkey (.lit (.int .i64 ((k:Int)+1))) [] ?_ ?_
     ·go_simp
      exact plainElem_int Tryd.underlying3 (wf_i64 (by omega) (by omega))
     ·intro w1 hown1 hgrow1
      have R1:=nmR_put (s:=s) (k:=k) hD
      rw[<-hns]at R1
      have R2:=(hB.trans (hB2.mono (by omega))).grown hgrow1 (by have:=hB2.size;omega) (fun j hj=>by cases hj;exact Nat.le_refl _)
      clear hown2 hgrow1 hrun hat
      go_wp2
      go_roundw
      case rel=>exact⟨k+1,_,by omega,by go_num,hown1,R1,fun j hj=>by
       by_cases e:j=k
       ·subst e;rw[hnm,decide_eq_false (by omega),decide_eq_false (by omega)];rfl
       ·exact hO j (by omega),R2⟩
      case measure=>simp[Go.RowKit.intOf];omega
  ·have hk2:k=xs.length:=by omega
   subst hk2
   have hall:=nmAll_true hO
   have hBa:Below w.heap.size w wr:=hB1.trans (hB.mono (by omega))
   have hcell: ∀ o,wr.cell? ⟨w.heap.size,o,none⟩=W1.cell? ⟨w.heap.size,o,none⟩:=fun o=>hB.cell (by show w.heap.size<_;omega)
   have q0:=(hcell 0).trans hP0
   have q1:=(hcell 1).trans hP1
   have q2:=(hcell 2).trans hP2
   have q3:=(hcell 3).trans hP3
   have q4:=(hcell 4).trans hP4
   have q5:=(hcell 5).trans hP5
   have q6:=(hcell 6).trans hP6
   have q7:=(hcell 7).trans hP7
   have q8:=(hcell 8).trans hP8
   have q9:=(hcell 9).trans hP9
   have q10:=(hcell 10).trans hP10
   clear hcell hC hb0 hb1 hW1 hP0 hP1 hP2 hP3 hP4 hP5 hP6 hP7 hP8 hP9 hP10
   by_cases hst:st= -1
   ·go_wp2
    go_ret
    refine⟨?_,hBa⟩
    rw[hall,decide_eq_true hst]
    rfl
   ·have hcall:=hSig wr hBa
    go_wp2_with fail
    refine hcall.mono ?_
    rintro e w2 ⟨a1,n1,c1,a2,n2,c2,o,rfl,hsg,hB3⟩
    cases o
    ·go_wp2
     (go_ret;exact⟨by rw[hsg,hall,decide_eq_false hst];first|rfl|(simp only[e1,e2];rfl)|(simp[e1,e2];done)|(simp[e1];done),(hBa.trans (hB3.mono hBa.size)).alloc (by have:=hBa.size;have:=hB3.size;omega) _⟩)
    ·by_cases e1:n1=0
     ·by_cases e2:n2=0
      ·go_wp2
       (go_ret;exact⟨by rw[hsg,hall,decide_eq_false hst];first|rfl|(simp only[e1,e2];rfl)|(simp[e1,e2];done)|(simp[e1];done),(hBa.trans (hB3.mono hBa.size)).alloc (by have:=hBa.size;have:=hB3.size;omega) _⟩)
      ·go_wp2
       (go_ret;exact⟨by rw[hsg,hall,decide_eq_false hst];first|rfl|(simp only[e1,e2];rfl)|(simp[e1,e2];done)|(simp[e1];done),(hBa.trans (hB3.mono hBa.size)).alloc (by have:=hBa.size;have:=hB3.size;omega) _⟩)
     ·go_wp2
      (go_ret;exact⟨by rw[hsg,hall,decide_eq_false hst];first|rfl|(simp only[e1,e2];rfl)|(simp[e1,e2];done)|(simp[e1];done),(hBa.trans (hB3.mono hBa.size)).alloc (by have:=hBa.size;have:=hB3.size;omega) _⟩)
end Go.Proofs
