import Derived.Test.YtooeifemoidnoaaDoorAb9
import Derived.KernelRfl
noncomputable section
namespace Go.Ab
variable [Io]
section
variable {P:Program}{call:CallF}
omit [Io] in
theorem opds_dep{t t':Tm}: ∀ (l:List Operand),(∀ x∈l,cOpd x t=cOpd x t')->opds (l.map cOpd) t=opds (l.map cOpd) t'
 | [],_=>rfl
 |x::l,h=>by
  show(Option.rec none (fun v=>Option.rec none (fun vs=>some (v::vs)) (opds (l.map cOpd) t)) (cOpd x t):Option (List AV))=
   Option.rec none (fun v=>Option.rec none (fun vs=>some (v::vs)) (opds (l.map cOpd) t')) (cOpd x t')
  rw[h x List.mem_cons_self,opds_dep l fun y hy=>h y (List.mem_cons_of_mem _ hy)]
omit [Io] in
theorem parts2_dep{t t':Tm}: ∀ (l:List (Nat×Operand)),(∀ x∈l.map (·.2),cOpd x t=cOpd x t')->parts2 (cPairs l) t=parts2 (cPairs l) t'
 | [],_=>rfl
 |p::l,h=>by
  show(match cOpd p.2 t with|some v=>(match parts2 (cPairs l) t with|some vs=>some ((p.1,v)::vs)|none=>none)|none=>none)=
   (match cOpd p.2 t' with|some v=>(match parts2 (cPairs l) t' with|some vs=>some ((p.1,v)::vs)|none=>none)|none=>none)
  rw[h p.2 List.mem_cons_self,parts2_dep l fun y hy=>h y (List.mem_cons_of_mem _ hy)]
omit [Io] in
theorem parts3_dep{t t':Tm}{place:Nat->Option (Nat×Nat)}: ∀ (l:List (Nat×Operand)) (ps:List (Nat×Nat×Opd)),cParts place l=some ps->(∀ x∈l.map (·.2),cOpd x t=cOpd x t')->parts3 ps t=parts3 ps t'
 | [],ps,e,_=>by cases e;rfl
 |p::l,ps,e,h=>by
  change (match place p.1 with|some (off,size)=>(match cParts place l with|some r=>some ((off,size,cOpd p.2)::r)|none=>none)|none=>none)=some ps at e
  split at e
  ·split at e
   ·rename_i r hr
    cases e
    show(match cOpd p.2 t with|some v=>(match parts3 r t with|some vs=>some ((_,_,v)::vs)|none=>none)|none=>none)=
     (match cOpd p.2 t' with|some v=>(match parts3 r t' with|some vs=>some ((_,_,v)::vs)|none=>none)|none=>none)
    rw[h p.2 List.mem_cons_self,parts3_dep l r hr fun y hy=>h y (List.mem_cons_of_mem _ hy)]
   ·cases e
  ·cases e
omit [Io] in
theorem natArg_dep{t t':Tm}{d:Nat}(x:Option Operand)(h: ∀ y∈x.toList,cOpd y t=cOpd y t'):natArg (x.map cOpd) t d=natArg (x.map cOpd) t' d:=by
 cases x with
 |none=>rfl
 |some y=>simp only[Option.map_some,natArg,h y (by simp)]
omit [Io] in
theorem bounds_dep{t t':Tm}{n:Nat}(lo hi:Option Operand)(h1: ∀ y∈lo.toList,cOpd y t=cOpd y t')(h2: ∀ y∈hi.toList,cOpd y t=cOpd y t'):
 bounds (lo.map cOpd) (hi.map cOpd) t n=bounds (lo.map cOpd) (hi.map cOpd) t' n:=by
 unfold bounds
 rw[natArg_dep lo h1,natArg_dep hi h2]
def DepF(t t':Tm)(h:Hp)(f:OpF):Prop:=f t h=f t' h
omit [Io] in
theorem dep_bad{t t':Tm}{h:Hp}:DepF t t' h kBad:=rfl
omit [Io] in
theorem dep_ifb{t t':Tm}{h:Hp}{c:Bool}{f:OpF}(e:DepF t t' h f):DepF t t' h (ifb c f kBad):=by cases c;exact dep_bad;exact e
omit [Io] in
theorem dep_ifb2{t t':Tm}{h:Hp}{c:Bool}{f f':OpF}(e:DepF t t' h f)(e':DepF t t' h f'):DepF t t' h (ifb c f f'):=by cases c;exact e';exact e
omit [Io] in
theorem cOp_dep{t t':Tm}{h:Hp}(o:Op)(e: ∀ x∈o.operands.toList,cOpd x t=cOpd x t'):DepF t t' h (cOp P call o).2:=by
 cases o<;>simp only[cOp]
 case move x=>simp only[DepF,kMove,e x (by simp[Op.operands])]
 case assign x=>simp only[DepF,kMove,e x (by simp[Op.operands])]
 case pick c x y=>simp only[DepF,kPick,kMove,e c (by simp[Op.operands]),e x (by simp[Op.operands]),e y (by simp[Op.operands])]
 case alloc T=>unfold cNew;split<;>rfl
 case box T x=>simp only[DepF,kBox,e x (by simp[Op.operands])]
 case build T ps=>
  unfold cBuild
  split
  ·split
   ·split
    ·rename_i q h3
     simp only[DepF,kBuild,parts3_dep (t:=t) (t':=t') ps.toList q h3 (fun x hx=>e x (by simpa[Op.operands]using hx))]
    ·rfl
   ·rfl
  ·rfl
 case buildSlice T n ps=>
  have hp:=parts2_dep (t:=t) (t':=t') ps.toList (fun x hx=>e x (by simpa[Op.operands]using hx))
  unfold cRow
  split
  ·split
   ·split
    ·refine dep_ifb ?_
     simp only[DepF,kRow,hp]
    ·rfl
   ·rfl
  ·rfl
 case load T x=>
  unfold cLoad
  split
  ·split
   ·simp only[DepF,kLoad,e x (by simp[Op.operands])]
   ·rfl
  ·rfl
 case store T x y=>
  unfold cStore
  split
  ·refine dep_ifb ?_
   simp only[DepF,kStore,e x (by simp[Op.operands]),e y (by simp[Op.operands])]
  ·rfl
 case nilCheck x=>simp only[DepF,kNil,e x (by simp[Op.operands])]
 case binOp op T x y yT=>
  cases cBin P op T with
  |none=>rfl
  |some f=>simp only[DepF,kBin,e x (by simp[Op.operands]),e y (by simp[Op.operands])]
 case unOp op T x=>
  cases cUn op with
  |none=>rfl
  |some f=>simp only[DepF,kUn,e x (by simp[Op.operands])]
 case convert S D x=>
  have hx:=e x (by simp[Op.operands])
  split
  ·simp only[cConvB]
   split
   ·split
    ·split
     ·simp only[DepF,kBytes,hx]
     ·rfl
    ·rfl
   ·split
    ·split
     ·refine dep_ifb ?_
      simp only[DepF,kMark,hx]
     ·rfl
    ·rfl
   ·rfl
  ·simp only[cConv]
   split
   ·split
    ·simp only[DepF,kUn,hx]
    ·rfl
   ·rfl
 case makeFunc f first caps=>
  cases f<;>try rfl
  simp only
  split
  ·simp only[DepF,kFn,opds_dep (t:=t) (t':=t') caps.toList (fun x hx=>e x (by simp[Op.operands];exact .inr (by simpa using hx)))]
  ·rfl
 case makeMap T r=>cases r<;>rfl
 case makeSlice T l c=>
  have h1:=e l (by simp[Op.operands])
  have h2:=e c (by simp[Op.operands])
  unfold cMake
  split
  ·split
   ·split
    ·refine dep_ifb ?_
     simp only[DepF,kMake,h1,h2]
    ·rfl
   ·rfl
  ·rfl
 case slice T x lo hi mx=>
  cases mx with
  |some m=>
   have hx:=e x (by simp[Op.operands])
   have hm:=e m (by simp[Op.operands])
   have hh: ∀ y∈hi.toList,cOpd y t=cOpd y t':=fun y hy=>e y (by simp[Op.operands];right;right;left;simpa using hy)
   simp only
   unfold cSlice3
   split
   ·rename_i y
    have hy:=hh y (by simp)
    split
    ·split
     ·simp only[DepF,kEmp,wO,hx,hy,hm]
     ·rfl
    ·rfl
   ·rfl
  |none=>
  have hx:=e x (by simp[Op.operands])
  have hl: ∀ y∈lo.toList,cOpd y t=cOpd y t':=fun y hy=>e y (by simp[Op.operands];right;left;simpa using hy)
  have hh: ∀ y∈hi.toList,cOpd y t=cOpd y t':=fun y hy=>e y (by simp[Op.operands];right;right;simpa using hy)
  have hb: ∀ n,bounds (lo.map cOpd) (hi.map cOpd) t n=bounds (lo.map cOpd) (hi.map cOpd) t' n:=fun n=>bounds_dep lo hi hl hh
  simp only
  unfold cSlice
  split
  ·simp only[DepF,kSliceS,hx,hb]
  ·split
   ·simp only[DepF,kSliceN,kSlice,hx,hb]
   ·rfl
  ·split
   ·refine dep_ifb ?_
    simp only[DepF,kSliceA,hx,hb]
   ·rfl
  ·rfl
 case fieldAddr T x n=>
  have hx:=e x (by simp[Op.operands])
  unfold cFieldAddr
  split
  ·split
   ·split
    ·refine dep_ifb ?_
     simp only[DepF,kFieldAddr,hx]
    ·rfl
   ·rfl
  ·rfl
 case field T x n=>
  have hx:=e x (by simp[Op.operands])
  unfold cField
  split
  ·split
   ·split
    ·split
     ·simp only[DepF,kField,hx]
     ·rfl
    ·rfl
   ·rfl
  ·rfl
 case indexAddr T x y=>
  have hx:=e x (by simp[Op.operands])
  have hy:=e y (by simp[Op.operands])
  unfold cIndexAddr
  split
  ·split
   ·simp only[DepF,kIxS,hx,hy]
   ·rfl
  ·split
   ·simp only[DepF,kIxA,hx,hy]
   ·rfl
  ·rfl
 case index T x y=>
  have hx:=e x (by simp[Op.operands])
  have hy:=e y (by simp[Op.operands])
  unfold cIndex
  split
  ·split
   ·split
    ·simp only[DepF,kIndex,hx,hy]
    ·rfl
   ·rfl
  ·simp only[DepF,kIndexS,hx,hy]
  ·rfl
 case extract x i=>simp only[DepF,kExtract,e x (by simp[Op.operands])]
 case call c=>
  have hargs: ∀ x∈c.args.toList,cOpd x t=cOpd x t':=fun x hx=>e x (by simp[Op.operands,Call.operands];right;simpa using hx)
  cases hb:cBuiltin P c with
  |some f=>
   simp only
   unfold cBuiltin at hb
   split at hb
   ·split at hb
    ·rename_i x T h1 h2
     cases hb
     have hx:=hargs x (by simp[h1])
     unfold cLen
     split
     ·simp only[DepF,kLenS,hx]
     ·simp only[DepF,kLen,wO,hx]
     ·rfl
     ·rfl
    ·cases hb;rfl
   ·split at hb
    ·rename_i x T h1 h2
     cases hb
     have hx:=hargs x (by simp[h1])
     unfold cCap
     split
     ·simp only[DepF,kCap,wO,hx]
     ·rfl
    ·cases hb;rfl
   ·split at hb
    ·rename_i x y h1
     cases hb
     simp only[DepF,kMin,kBin,hargs x (by simp[h1]),hargs y (by simp[h1])]
    ·cases hb;rfl
   ·split at hb
    ·rename_i x y h1
     cases hb
     simp only[DepF,kMax,kBin,hargs x (by simp[h1]),hargs y (by simp[h1])]
    ·cases hb;rfl
   ·cases hb
  |none=>
   simp only
   unfold cCall
   split
   ·split
    ·rename_i s x T T' h1 h2
     have h3:=hargs s (by simp[h1])
     have h4:=hargs x (by simp[h1])
     refine dep_ifb2 ?_ ?_
     ·unfold cAppend
      split
      ·split
       ·split
        ·refine dep_ifb ?_
         simp only[DepF,kAppendN,kAppend,wO,h3,h4]
        ·rfl
       ·rfl
      ·rfl
     ·unfold cAppO
      split
      ·unfold cAppS
       split
       ·split
        ·split
         ·split
          ·refine dep_ifb ?_
           simp only[DepF,kAppS,h3,h4]
          ·rfl
         ·rfl
        ·rfl
       ·rfl
      ·unfold cAppZ
       split
       ·split
        ·split
         ·split
          ·refine dep_ifb ?_
           simp only[DepF,kAppZ,h3,h4]
          ·rfl
         ·rfl
        ·rfl
       ·rfl
    ·rfl
   ·split
    ·rename_i d s T T' h1 h2
     have h3:=hargs d (by simp[h1])
     have h4:=hargs s (by simp[h1])
     unfold cCopy
     split
     ·split
      ·simp only[DepF,kCopy,wO,h3,h4]
      ·rfl
     ·rfl
    ·rfl
   ·rename_i f args ats
    simp only[DepF,kCall,opds_dep (t:=t) (t':=t') args.toList hargs]
   ·rename_i f args ats _
    have hf:=e f (by simp[Op.operands,Call.operands])
    simp only[DepF,kCallV,hf,opds_dep (t:=t) (t':=t') args.toList hargs]
   ·rfl
 all_goals rfl
def tmpOf:Operand->List Nat
 | .tmp i=>[i]
 | _=>[]
def readsOf(all:List Oper)(o:Oper):List Nat:=
 app (List.rec [] (fun x _ ih=>app (tmpOf x) ih) o.op.operands.toList) (match o.guard with
  |none=>[]
  |some (j,_)=>match getN all j with
   |some oj=>match oj.dst with
    |some d=>[d]
    |none=>[]
   |none=>[])
omit [Io] in
theorem mem_tmps{x:Operand}{i:Nat}: ∀ {l:List Operand},x∈l->i∈tmpOf x->i∈(List.rec [] (fun x _ ih=>app (tmpOf x) ih) l:List Nat)
 | [],h,_=>by cases h
 |y::l,h,hi=>by
  show i∈app (tmpOf y) _
  rw[app_eq]
  cases h with
  |head=>exact List.mem_append_left _ hi
  |tail _ h=>exact List.mem_append_right _ (mem_tmps h hi)
omit [Io] in
theorem gOp_dep{nt:Nat}{all:List Oper}{o:Oper}{t t':Tm}{h:Hp}(e: ∀ u∈readsOf all o,t.at u=t'.at u):gOp P call nt all o t h=gOp P call nt all o t' h:=by
 have hx: ∀ x∈o.op.operands.toList,cOpd x t=cOpd x t':=by
  intro x hx
  cases x with
  |tmp i=>
   have:=e i (by unfold readsOf;rw[app_eq];exact List.mem_append_left _ (mem_tmps hx (by simp[tmpOf])))
   show ifb (Nat.blt i 512) (oT i) oX t=ifb (Nat.blt i 512) (oT i) oX t'
   cases Nat.blt i 512
   ·rfl
   ·exact this
  |const v=>show(match ofV v with|some a=>oC a|none=>oX) t=(match ofV v with|some a=>oC a|none=>oX) t';cases ofV v<;>rfl
  |global g=>rfl
  |func f=>rfl
 have hd:=cOp_dep (P:=P) (call:=call) (h:=h) o.op hx
 unfold gOp
 cases hg:o.guard with
 |none=>exact hd
 |some p=>
  obtain⟨j,want⟩:=p
  simp only
  cases hj:getN all j with
  |none=>rfl
  |some oj=>
   simp only
   cases hdj:oj.dst with
   |none=>rfl
   |some d=>
    simp only
    cases Nat.blt d nt with
    |false=>rfl
    |true=>
     have hd2:t.at d=t'.at d:=e d (by
      unfold readsOf
      rw[app_eq,hg]
      refine List.mem_append_right _ ?_
      simp[hj,hdj])
     show gF (oT d) want (cOp P call o.op).2 t h=gF (oT d) want (cOp P call o.op).2 t' h
     unfold gF
     unfold DepF at hd
     rw[hd]
     show(match t.at d with|some (.bool b)=>_|some (.tup [])=>_| _=>_)=(match t'.at d with|some (.bool b)=>_|some (.tup [])=>_| _=>_)
     rw[hd2]
end
end Go.Ab

noncomputable section
namespace Go.Ab
variable [Io]
section
variable {P:Program}{call:CallF}
def IndF(f:OpF):Prop:= ∀ t h h0,f t h=(match f t h0 with| .ok v _=>.ok v h| .bad=>.bad)
omit [Io] in
theorem IndF.ok{f:OpF}(i:IndF f){t:Tm}{h h':Hp}{v:AV}(e:f t h=.ok v h'):h'=h/\ ∀ h0,f t h0=.ok v h0:=by
 refine⟨?_,fun h0=>by rw[i t h0 h,e]⟩
 have:=i t h h
 rw[e]at this
 exact(Ro.ok.inj this).2
omit [Io] in
theorem ind_bad:IndF kBad:=fun _ _ _=>rfl
omit [Io] in
theorem ind_ifb{c:Bool}{f:OpF}(i:IndF f):IndF (ifb c f kBad):=by cases c;exact ind_bad;exact i
omit [Io] in
theorem ind_move{x:Opd}:IndF (kMove x):=by intro t h h0;unfold kMove;cases x t<;>rfl
omit [Io] in
theorem ind_pick{c x y:Opd}:IndF (kPick c x y):=by
 intro t h h0;unfold kPick;cases c t<;>try rfl
 rename_i a;cases a<;>try rfl
 rename_i b;cases b
 ·exact ind_move t h h0
 ·exact ind_move t h h0
omit [Io] in
theorem ind_nil{x:Opd}:IndF (kNil x):=by intro t h h0;unfold kNil;cases x t<;>try rfl
                                         rename_i a;cases a<;>rfl
omit [Io] in
theorem ind_bin{f:AV->AV->Option AV}{x y:Opd}:IndF (kBin f x y):=by
 intro t h h0;unfold kBin;cases x t<;>try rfl
 rename_i a;cases y t<;>try rfl
 rename_i b;simp only;cases f a b<;>rfl
omit [Io] in
theorem ind_un{f:AV->Option AV}{x:Opd}:IndF (kUn f x):=by
 intro t h h0;unfold kUn;cases x t<;>try rfl
 rename_i a;simp only;cases f a<;>rfl
omit [Io] in
theorem ind_fn{f:FuncId}{l:List Opd}:IndF (kFn f l):=by intro t h h0;unfold kFn;cases opds l t<;>rfl
omit [Io] in
theorem ind_build{z:List AV}{ps:List (Nat×Nat×Opd)}:IndF (kBuild z ps):=by
 intro t h h0;unfold kBuild;cases parts3 ps t<;>try rfl
 rename_i vs;simp only;cases fillG vs z<;>rfl
omit [Io] in
theorem ind_fieldAddr{n:Nat}{x:Opd}:IndF (kFieldAddr n x):=by intro t h h0;unfold kFieldAddr;cases x t<;>try rfl
                                                              rename_i a;cases a<;>rfl
omit [Io] in
theorem ind_field{n m:Nat}{b:Bool}{x:Opd}:IndF (kField n m b x):=by
 intro t h h0;unfold kField;cases x t<;>try rfl
 rename_i a;cases a<;>try rfl
 rename_i cs;simp only;cases part b cs n m<;>rfl
omit [Io] in
theorem ind_ixS{n:Nat}{x y:Opd}:IndF (kIxS n x y):=by
 intro t h h0;unfold kIxS;cases y t<;>try rfl
 rename_i a;cases a<;>try rfl
 rename_i k i;cases i<;>try rfl
 rename_i i;simp only;cases x t<;>try rfl
 rename_i a;cases a<;>try rfl
 ·rename_i id off m sz;simp only;cases(Nat.blt i m&&Nat.beq sz n)<;>rfl
 ·rename_i m cs;simp only;cases Nat.blt i m<;>rfl
omit [Io] in
theorem ind_ixA{m n:Nat}{x y:Opd}:IndF (kIxA m n x y):=by
 intro t h h0;unfold kIxA;cases y t<;>try rfl
 rename_i a;cases a<;>try rfl
 rename_i k i;cases i<;>try rfl
 rename_i i;simp only;cases x t<;>try rfl
 rename_i a;cases a<;>try rfl
 ·simp only;cases Nat.blt i m<;>rfl
 ·simp only;cases Nat.blt i m<;>rfl
omit [Io] in
theorem ind_index{m n:Nat}{b:Bool}{x y:Opd}:IndF (kIndex m n b x y):=by
 intro t h h0;unfold kIndex;cases x t<;>try rfl
 rename_i a;cases a<;>try rfl
 rename_i cs;simp only;cases y t<;>try rfl
 rename_i a;cases a<;>try rfl
 rename_i k i;cases i<;>try rfl
 rename_i i;simp only;cases Nat.blt i m<;>try rfl
 simp only[cond_true];cases part b cs (Nat.mul i n) n<;>rfl
omit [Io] in
theorem ind_indexS{x y:Opd}:IndF (kIndexS x y):=by
 intro t h h0;unfold kIndexS;cases x t<;>try rfl
 rename_i a;cases a<;>try rfl
 rename_i v;cases v<;>try rfl
 rename_i s;simp only;cases y t<;>try rfl
 rename_i a;cases a<;>try rfl
 ·rename_i k i;cases i<;>try rfl
  rename_i i;simp only;cases getN s.data.toList i<;>rfl
 ·rename_i k sv lo hi o;simp only;cases(!(ltI (Int.add lo o) 0)&&ltI (Int.add hi o) (.ofNat s.size))<;>rfl
omit [Io] in
theorem ind_extract{x:Opd}{i:Nat}:IndF (kExtract x i):=by
 intro t h h0;unfold kExtract;cases x t<;>try rfl
 rename_i a;cases a<;>try rfl
 rename_i vs;simp only;cases getN vs i<;>rfl
omit [Io] in
theorem ind_lenS{x:Opd}:IndF (kLenS x):=by
 intro t h h0;unfold kLenS;cases x t<;>try rfl
 rename_i a;cases a<;>try rfl
 rename_i v;cases v<;>rfl
omit [Io] in
theorem ind_len{x:Opd}:IndF (kLen x):=by
 intro t h h0;unfold kLen;cases x t<;>try rfl
 rename_i a;cases a<;>rfl
omit [Io] in
theorem ind_cap{x:Opd}:IndF (kCap x):=by
 intro t h h0;unfold kCap;cases x t<;>try rfl
 rename_i a;cases a<;>rfl
omit [Io] in
theorem cOp_ind{o:Op}(hc:(cOp P call o).1=.p0):IndF (cOp P call o).2:=by
 cases o<;>simp only[cOp]at hc ⊢
 case move x=>exact ind_move
 case assign x=>exact ind_move
 case pick c x y=>exact ind_pick
 case alloc T=>cases hc
 case box T x=>cases hc
 case build T ps=>
  unfold cBuild
  split
  ·split
   ·split
    ·exact ind_build
    ·exact ind_bad
   ·exact ind_bad
  ·exact ind_bad
 case buildSlice T n ps=>cases hc
 case load T x=>cases hc
 case store T x y=>cases hc
 case nilCheck x=>exact ind_nil
 case binOp op T x y yT=>
  cases cBin P op T with
  |some f=>exact ind_bin
  |none=>exact ind_bad
 case unOp op T x=>
  cases cUn op with
  |some f=>exact ind_un
  |none=>exact ind_bad
 case convert S D x=>
  have hcv:IndF (cConv P S D x):=by
   unfold cConv
   split
   ·split
    ·exact ind_un
    ·exact ind_bad
   ·exact ind_bad
  split
  ·rename_i h
   rw[h]at hc
   cases hc
  ·exact hcv
 case makeFunc f first caps=>
  cases f<;>try (cases hc;done)
  simp only
  cases first.toList with
  |nil=>exact ind_fn
  |cons a l=>exact ind_bad
 case makeSlice T l c=>cases hc
 case slice T x lo hi mx=>cases mx<;>cases hc
 case fieldAddr T x n=>
  unfold cFieldAddr
  split
  ·split
   ·split
    ·exact ind_ifb ind_fieldAddr
    ·exact ind_bad
   ·exact ind_bad
  ·exact ind_bad
 case field T x n=>
  unfold cField
  split
  ·split
   ·split
    ·split
     ·exact ind_field
     ·exact ind_bad
    ·exact ind_bad
   ·exact ind_bad
  ·exact ind_bad
 case indexAddr T x y=>
  unfold cIndexAddr
  split
  ·split
   ·exact ind_ixS
   ·exact ind_bad
  ·split
   ·exact ind_ixA
   ·exact ind_bad
  ·exact ind_bad
 case index T x y=>
  unfold cIndex
  split
  ·split
   ·split
    ·exact ind_index
    ·exact ind_bad
   ·exact ind_bad
  ·exact ind_indexS
  ·exact ind_bad
 case extract x i=>exact ind_extract
 case call c=>
  cases hb:cBuiltin P c with
  |none=>rw[hb]at hc;cases hc
  |some f=>
   simp only
   unfold cBuiltin at hb
   split at hb
   ·split at hb
    ·cases hb
     unfold cLen
     split
     ·exact ind_lenS
     ·exact ind_len
     ·exact ind_move
     ·exact ind_bad
    ·cases hb;exact ind_bad
   ·split at hb
    ·cases hb
     unfold cCap
     split
     ·exact ind_cap
     ·exact ind_bad
    ·cases hb;exact ind_bad
   ·split at hb
    ·cases hb;exact ind_bin
    ·cases hb;exact ind_bad
   ·split at hb
    ·cases hb;exact ind_bin
    ·cases hb;exact ind_bad
   ·cases hb
 case makeMap T r=>cases r<;>cases hc
 all_goals (cases hc)
def IndA(f:OpF):Prop:= ∀ t h v h',f t h=.ok v h'-> ∀ h0:Hp,h0.next=h.next->(h'=h/\f t h0=.ok v h0)∨ ∃ cs,h'=newO h cs/\f t h0=.ok v (newO h0 cs)
omit [Io] in
theorem inda_bad:IndA kBad:=by intro t h v h' e;cases e
omit [Io] in
theorem inda_ifb{c:Bool}{f:OpF}(i:IndA f):IndA (ifb c f kBad):=by cases c;exact inda_bad;exact i
omit [Io] in
theorem cOp_inda{o:Op}(hc:(cOp P call o).1=.al):IndA (cOp P call o).2:=by
 cases o<;>simp only[cOp]at hc ⊢
 case alloc T=>
  unfold cNew
  split
  ·intro t h v h' e h0 hn
   cases e
   exact .inr ⟨_,rfl,by unfold kNew;rw[hn]⟩
  ·exact inda_bad
 case box T x=>
  intro t h v h' e h0 hn
  unfold kBox at e ⊢
  cases hx:cOpd x t with
  |none=>rw[hx]at e;cases e
  |some a=>rw[hx]at e;cases e;exact .inr ⟨_,rfl,by rw[hn]⟩
 case buildSlice T n ps=>
  unfold cRow
  split
  ·split
   ·split
    ·refine inda_ifb ?_
     rename_i ie hie _ z hz0
     intro t h v h' e h0 hn
     unfold kRow at e ⊢
     cases hp:parts2 (cPairs ps.toList) t with
     |none=>rw[hp]at e;cases e
     |some vs=>
      rw[hp]at e
      simp only at e ⊢
      cases hz:Nat.beq n 0 with
      |true=>
       rw[hz]at e
       cases vs with
       |nil=>cases e;exact .inl ⟨rfl,rfl⟩
       |cons _ _=>cases e
      |false=>
       rw[hz]at e
       simp only[cond_false]at e ⊢
       cases hf:fillRow n ie.size z vs with
       |none=>rw[hf]at e;cases e
       |some cs=>rw[hf]at e;cases e;exact .inr ⟨_,rfl,by rw[hn]⟩
    ·exact inda_bad
   ·exact inda_bad
  ·exact inda_bad
 case makeSlice T l c=>
  unfold cMake
  split
  ·split
   ·split
    ·refine inda_ifb ?_
     rename_i ie hie _ z hz0
     intro t h v h' e h0 hn
     unfold kMake at e ⊢
     cases hl:cOpd l t with
     |none=>rw[hl]at e;cases e
     |some a=>
     cases a<;>try (rw[hl]at e;cases e;done)
     rename_i k i
     cases i<;>try (rw[hl]at e;cases e;done)
     rename_i i
     rw[hl]at e
     simp only at e ⊢
     cases hcc:cOpd c t with
     |none=>rw[hcc]at e;cases e
     |some a=>
     cases a<;>try (rw[hcc]at e;cases e;done)
     rename_i k2 j
     cases j<;>try (rw[hcc]at e;cases e;done)
     rename_i j
     rw[hcc]at e
     simp only at e ⊢
     cases hb:(Nat.ble i j&&Nat.ble (Nat.mul j ie.bytes) 70368744177664)with
     |false=>rw[hb]at e;cases e
     |true=>
     rw[hb]at e
     simp only[cond_true]at e ⊢
     cases hz:Nat.beq j 0 with
     |true=>rw[hz]at e;cases e;exact .inl ⟨rfl,rfl⟩
     |false=>rw[hz]at e;cases e;exact .inr ⟨_,rfl,by simp only[cond_false];rw[hn]⟩
    ·exact inda_bad
   ·exact inda_bad
  ·exact inda_bad
 case binOp op T x y yT=>cases h:cBin P op T<;>rw[h]at hc<;>cases hc
 case unOp op T x=>cases h:cUn op<;>rw[h]at hc<;>cases hc
 case convert S D x=>
  cases h:P.underlying D with
  |none=>rw[h]at hc;cases hc
  |some d=>cases d<;>rw[h]at hc<;>cases hc
 case makeFunc f first caps=>
  cases f<;>try (cases hc;done)
  simp only at hc
  cases h:first.toList<;>rw[h]at hc<;>cases hc
 case slice T x lo hi mx=>cases mx<;>cases hc
 case makeMap T r=>cases r<;>cases hc
 case call c=>cases h:cBuiltin P c<;>rw[h]at hc<;>cases hc
 all_goals (cases hc)
end
end Go.Ab

noncomputable section
namespace Go.Ab
variable [Io]
def G.to(g:G)(N:Nat):G:=⟨fun id=>if id<N then g.m id else none,g.imm⟩
omit [Io] in
theorem mono_refl(g:G)(w:World):Mono g w g w:=⟨fun _ _ e=>e,fun _ i=>i,fun _ _=>rfl,fun _=>Nat.le_refl _⟩
omit [Io] in
theorem Mono.trans{g w g1 w1 g2 w2}(a:Mono g w g1 w1)(b:Mono g1 w1 g2 w2):Mono g w g2 w2:=
 ⟨fun id x e=>b.m id x (a.m id x e),fun k i=>b.imm k (a.imm k i),fun k i=>(b.keep k (a.imm k i)).trans (a.keep k i),fun k=>Nat.le_trans (a.rows k) (b.rows k)⟩
omit [Io] in
theorem mono_to(g:G)(w:World){N M:Nat}(h:N<=M):Mono (g.to N) w (g.to M) w:=
 ⟨(by
   intro id x e
   simp only[G.to]at e ⊢
   by_cases h1:id<N
   ·rw[if_pos h1]at e;rw[if_pos (by omega)];exact e
   ·rw[if_neg h1]at e;cases e),fun _ i=>i,fun _ _=>rfl,fun _=>Nat.le_refl _⟩
def nilH(N:Nat):Hp:=⟨N,.nil⟩
theorem hc_nil{g:G}{w:World}{N:Nat}(h: ∀ b,g.imm b->b<w.heap.size):HC g w (nilH N):=⟨(fun _ _ e=>by cases e),h⟩
section
variable {P:Program}{call:CallF}{o:Oper}
theorem guard_cases{ops:Array Oper}{g w nt t h}{a:Act}{v:AV}{h':Hp}(T:TR g w nt t a.tmps)
 (e:gOp P call nt ops.toList o t h=.ok v h'):(Region.wanted o (yielded ops a.tmps)=true/\(cOp P call o.op).2 t h=.ok v h')∨
  (Region.wanted o (yielded ops a.tmps)=false/\v=undefA/\h'=h):=by
 unfold gOp at e
 cases hg:o.guard with
 |none=>
  rw[hg]at e
  exact .inl ⟨by simp[Region.wanted,hg],e⟩
 |some p=>
  obtain⟨j,want⟩:=p
  rw[hg]at e
  simp only[getN_eq]at e
  cases hj:ops.toList[j]? with
  |none=>simp only[hj]at e;cases e
  |some oj=>
  simp only[hj]at e
  cases hd:oj.dst with
  |none=>simp only[hd]at e;cases e
  |some d=>
  simp only[hd]at e
  cases hb:Nat.blt d nt with
  |false=>simp only[hb]at e;cases e
  |true=>
  simp only[hb]at e
  have hdn:=blt_iff.1 hb
  change gF (oT d) want (cOp P call o.op).2 t h=.ok v h' at e
  have hj':ops[j]? =some oj:=by simpa using hj
  have hsz:=T.2.1
  have hy: ∀ y,a.tmps.getD d undef=y->yielded ops a.tmps j=match y with| .bool b=>some b| _=>none:=by
   intro y hy
   have:a.tmps[d]? =some y:=by
    rw[Array.getD_eq_getD_getElem?]at hy
    rw[Array.getElem?_eq_getElem (by omega)]at hy ⊢
    simpa using hy
   simp[yielded,hj',hd,this]
   cases y<;>rfl
  unfold gF at e
  split at e
  ·rename_i b hb2
   have hv:=(T.2.2 d _ (by have:=T.1;omega) hb2).2
   simp only[VR]at hv
   have hy2:=hy _ hv
   cases hwb:(ifb want b (!b))with
   |true=>
    rw[hwb]at e
    have:b=want:=by cases want<;>cases b<;>simp[ifb]at hwb<;>rfl
    exact .inl ⟨by simp[Region.wanted,hg,hy2,this],e⟩
   |false=>
    rw[hwb]at e
    have:b≠want:=by cases want<;>cases b<;>simp[ifb]at hwb<;>simp
    cases e
    exact .inr ⟨by simp[Region.wanted,hg,hy2,this],rfl,rfl⟩
  ·rename_i hb2
   have hv:=(T.2.2 d _ (by have:=T.1;omega) hb2).2
   simp only[VR]at hv
   obtain⟨vs,hv,hvs⟩:=hv
   have hy2:=hy _ hv
   cases e
   exact .inr ⟨by simp[Region.wanted,hg,hy2],rfl,rfl⟩
  ·cases e
theorem vr_undef(g:G)(w:World):VR g w undefA undef:=by simp only[undefA,VR];exact⟨_,rfl,by simp[VRs]⟩
theorem pure_step(hc:CallOk P call){ops:Array Oper}{i:Nat}(hi:ops[i]? =some o){g w nt t h}{a:Act}{v:AV}{h':Hp}(hcl:(cOp P call o.op).1=.p0∨(cOp P call o.op).1=.p1)
 (H:HC g w h)(T:TR g w nt t a.tmps)(e:gOp P call nt ops.toList o t h=.ok v h'){Q:Exit->Act->World->Prop}{rest:List Nat}
 (K: ∀ x,VR g w v x->wpOps P ops Q rest (a.put o.dst x) w):wpOps P ops Q (i::rest) a w:=by
 rw[wpOps,hi]
 simp only
 have hp:OpPure P o (cOp P call o.op).2:=by
  have:=cOp_all (o:=o) hc
  cases h:cOp P call o.op with
  |mk c f=>
   rw[h]at this hcl
   cases c
   ·exact this
   ·exact this
   ·rcases hcl with h|h<;>cases h
   ·rcases hcl with h|h<;>cases h
 rcases guard_cases T e with⟨hw,e⟩|⟨hw,rfl,rfl⟩
 ·rw[if_pos hw]
  obtain⟨rfl,x,hx,hv⟩:=hp g w nt t h a v h' H T e
  refine .inl ?_
  unfold Oper.wp
  rw[hx]
  exact K x hv
 ·rw[if_neg (by simp[hw])]
  exact K undef (vr_undef g w)
theorem new_step(hc:CallOk P call){ops:Array Oper}{i:Nat}(hi:ops[i]? =some o){g w nt t h}{a:Act}{v:AV}{h':Hp}(hcl:(cOp P call o.op).1=.al)
 (H:HC g w h)(T:TR g w nt t a.tmps)(e:gOp P call nt ops.toList o t h=.ok v h'){Q:Exit->Act->World->Prop}{rest:List Nat}
 (K1:h'=h-> ∀ x w',(w'=w∨ ∃ ob,w'=w.alloc ob)->(∀ g' w',VR g' w' v x)->wpOps P ops Q rest (a.put o.dst x) w')
 (K2: ∀ cs C el vs x,h'=newO h cs->VRs g w cs.toL vs->(∀ (j:Nat) (v:Value),vs[j]? =some v->C[j]? =some v)->
  (∀ g' w',g'.m h.next=some (w.heap.size,0)->C.size<=rowSize w' w.heap.size->VR g' w' v x)->wpOps P ops Q rest (a.put o.dst x) (w.alloc (.cells C el))):
 wpOps P ops Q (i::rest) a w:=by
 rw[wpOps,hi]
 simp only
 have hp:OpNew P o (cOp P call o.op).2:=by
  have:=cOp_all (o:=o) hc
  cases h:cOp P call o.op with
  |mk c f=>rw[h]at this hcl;simp only at hcl;subst hcl;exact this
 rcases guard_cases T e with⟨hw,e⟩|⟨hw,rfl,rfl⟩
 ·rw[if_pos hw]
  rcases hp g w nt t h a v h' H T e with⟨rfl,x,C,el,hr,hv⟩|⟨cs,C,el,vs,x,rfl,hr,hvs,hC,hv⟩
  ·refine .inl ?_
   unfold Oper.wp
   rw[hr]
   exact K1 rfl x _ (.inr ⟨_,rfl⟩) hv
  ·refine .inl ?_
   unfold Oper.wp
   rw[hr]
   exact K2 cs C el vs x rfl hvs hC hv
 ·rw[if_neg (by simp[hw])]
  exact K1 rfl undef _ (.inl rfl) (fun g w=>vr_undef g w)
omit [Io] in
theorem gOp_ind{nt:Nat}{all:List Oper}(hcl:(cOp P call o.op).1=.p0):IndF (gOp P call nt all o):=by
 have hf:IndF (cOp P call o.op).2:=cOp_ind hcl
 unfold gOp
 cases o.guard with
 |none=>exact hf
 |some p=>
  obtain⟨j,want⟩:=p
  simp only
  split
  ·split
   ·refine ind_ifb ?_
    intro t h h0
    unfold gF
    split
    ·rename_i b _
     cases ifb want b (!b)
     ·rfl
     ·exact hf t h h0
    ·rfl
    ·rfl
   ·exact ind_bad
  ·exact ind_bad
omit [Io] in
theorem gOp_inda{nt:Nat}{all:List Oper}(hcl:(cOp P call o.op).1=.al):IndA (gOp P call nt all o):=by
 have hf:IndA (cOp P call o.op).2:=cOp_inda hcl
 unfold gOp
 cases o.guard with
 |none=>exact hf
 |some p=>
  obtain⟨j,want⟩:=p
  simp only
  split
  ·split
   ·refine inda_ifb ?_
    intro t h v h' e h0 hn
    unfold gF at e ⊢
    split at e
    ·rename_i b hb
     cases hw:ifb want b (!b)with
     |false=>rw[hw]at e;cases e;exact .inl ⟨rfl,rfl⟩
     |true=>rw[hw]at e;exact hf t h v h' e h0 hn
    ·cases e
     exact .inl ⟨rfl,rfl⟩
    ·cases e
   ·exact inda_bad
  ·exact inda_bad
end
end Go.Ab

noncomputable section
namespace Go.Ab
variable [Io]
inductive Plan where
 |last (pre als:List Nat)
 |cons (pre als:List Nat) (q:Nat) (rest:Plan)
def Plan.pre:Plan->List Nat
 | .last p _=>p
 | .cons p _ _ _=>p
def Plan.als:Plan->List Nat
 | .last _ a=>a
 | .cons _ a _ r=>a++r.als
def Plan.chs:Plan->List Nat
 | .last _ _=>[]
 | .cons _ _ q r=>q::r.chs
structure Cx where
 P:Program
 call:CallF
 ops:Array Oper
 nt:Nat
 t0:Tm
 te:Tm
 nx:Nat->Nat
 bd:Nat->Nat
 g0:G
 w0:World
 h0:Hp
 hE:Hp
namespace Cx
variable (c:Cx)
def IsCl(i:Nat)(k:Cl):Prop:= ∃ o,c.ops[i]? =some o/\(cOp c.P c.call o.op).1=k
def FE(i:Nat):OpF:=match c.ops[i]? with
 |some o=>gOp c.P c.call c.nt c.ops.toList o
 |none=>kBad
def Dst(i d:Nat):Prop:= ∃ o,c.ops[i]? =some o/\o.dst=some d
def Rds(i:Nat):List Nat:=match c.ops[i]? with
 |some o=>readsOf c.ops.toList o
 |none=>[]
def An(i j:Nat):Prop:=anc c.ops.toList i j=true
def RdOk(i N:Nat):Prop:= ∀ u∈c.Rds i,u<c.nt/\((∀ j,c.Dst j u->c.An i j/\c.bd j<=N)∨ ∀ j,c.Dst j u->c.An j i)
open Classical in
def rfL(i:Nat):List Nat->Tm
 | []=>Tm.none
 |u::l=>Tm.put (rfL i l) u (if ∃ j,c.Dst j u/\c.An i j then Tm.at c.te u else Tm.at c.t0 u)
def rf(i:Nat):Tm:=c.rfL i (c.Rds i)
def Slot(i:Nat)(v:AV):Prop:= ∀ d,c.Dst i d->d<c.nt/\c.te.at d=some v
def P1s(pre:List Nat)(h:Hp):Prop:= ∀ i∈pre,c.IsCl i .p1-> ∃ v,c.FE i (c.rf i) h=.ok v h/\c.Slot i v/\c.RdOk i h.next
def AlsP:List Nat->Hp->Hp->Prop
 | [],h,h1=>h1=h
 |i::l,h,h1=>(c.IsCl i .p0/\AlsP l h h1)∨(c.IsCl i .al/\c.nx i=h.next/\((c.bd i=c.nx i/\AlsP l h h1)∨
  ∃ v cs,c.bd i=c.nx i+1/\c.FE i (c.rf i) (nilH (c.nx i))=.ok v (newO (nilH (c.nx i)) cs)/\AlsP l (newO h cs) h1))
def RunP:Plan->Hp->Prop
 | .last pre als,h=>c.P1s pre h/\c.AlsP als h c.hE
 | .cons pre als q rest,h=>c.P1s pre h/\ ∃ h1,c.AlsP als h h1/\c.IsCl q .ch/\ ∃ v h2,c.FE q (c.rf q) h1=.ok v h2/\c.Slot q v/\c.RdOk q h1.next/\
   c.bd q=h2.next/\h1.next<=h2.next/\RunP rest h2
def StatP:List Nat->Plan->Prop
 |past,.last pre _=> ∀ i,c.IsCl i .p1->(∃ j∈past,c.An j i)∨i∈pre
 |past,.cons pre als q rest=>(∀ i,c.IsCl i .p1->(∃ j∈past,c.An j i)∨(∃ j∈q::rest.chs,c.An i j)∨i∈pre)/\(∀ i∈als,c.IsCl i .al->c.An q i)/\
  (∀ q'∈rest.chs,c.An q' q)/\StatP (q::past) rest
structure Glob:Prop where
 p0: ∀ i,c.IsCl i .p0-> ∃ v,(∀ h,c.FE i (c.rf i) h=.ok v h)/\c.Slot i v/\c.RdOk i (c.bd i)
 al: ∀ i,c.IsCl i .al-> ∃ v,c.Slot i v/\c.RdOk i (c.nx i)/\((c.FE i (c.rf i) (nilH (c.nx i))=.ok v (nilH (c.nx i))/\c.bd i=c.nx i)∨
  ∃ cs,c.FE i (c.rf i) (nilH (c.nx i))=.ok v (newO (nilH (c.nx i)) cs)/\c.bd i=c.nx i+1)
 dst: ∀ i j d,c.Dst i d->c.Dst j d->i=j
 top: ∀ i,i<c.ops.size->c.bd i<=c.hE.next
 same: ∀ u,u<512->(∀ j,¬ c.Dst j u)->c.te.at u=c.t0.at u
 call:CallOk c.P c.call
 nt:c.nt<=512
omit [Io] in
theorem als_le{h1:Hp}: ∀ {l:List Nat} {h:Hp},c.AlsP l h h1->h.next<=h1.next
 | [],h,e=>by cases e;exact Nat.le_refl _
 |i::l,h,e=>by
  rcases e with⟨_,e⟩|⟨_,_,⟨_,e⟩|⟨v,cs,_,_,e⟩⟩
  ·exact als_le e
  ·exact als_le e
  ·have:=als_le e
   exact Nat.le_trans (Nat.le_succ _) this
omit [Io] in
theorem als_nx{h1:Hp}: ∀ {l:List Nat} {h:Hp},c.AlsP l h h1-> ∀ i∈l,c.IsCl i .al->h.next<=c.nx i/\(c.bd i=c.nx i+1->c.nx i<h1.next)
 | [],h,e,i,hi,_=>by cases hi
 |j::l,h,e,i,hi,hc=>by
  rcases e with⟨hj,e⟩|⟨hj,hn,⟨hb,e⟩|⟨v,cs,hb,_,e⟩⟩
  ·rcases List.mem_cons.1 hi with rfl|hi
   ·obtain⟨o,ho,h1⟩:=hj
    obtain⟨o',ho',h2⟩:=hc
    rw[ho]at ho'
    cases ho'
    rw[h1]at h2
    cases h2
   ·exact als_nx e i hi hc
  ·rcases List.mem_cons.1 hi with rfl|hi
   ·exact⟨by omega,fun h=>by omega⟩
   ·exact als_nx e i hi hc
  ·rcases List.mem_cons.1 hi with rfl|hi
   ·have:=als_le c e
    have:h.next+1<=h1.next:=this
    exact⟨by omega,fun _=>by omega⟩
   ·have:=als_nx e i hi hc
    have h2:h.next+1<=c.nx i:=this.1
    exact⟨by omega,this.2⟩
omit [Io] in
theorem run_nx: ∀ {pl:Plan} {h:Hp},c.RunP pl h-> ∀ i∈pl.als,c.IsCl i .al->h.next<=c.nx i
 | .last pre als,h,⟨_,e⟩,i,hi,hc=>(c.als_nx e i hi hc).1
 | .cons pre als q rest,h,⟨_,h1,e,_,v,h2,_,_,_,_,hle,r⟩,i,hi,hc=>by
  rcases List.mem_append.1 hi with hi|hi
  ·exact(c.als_nx e i hi hc).1
  ·exact Nat.le_trans (c.als_le e) (Nat.le_trans hle (run_nx r i hi hc))
omit [Io] in
theorem cl_al{i:Nat}{k:Cl}(h:c.IsCl i k){k':Cl}(h':c.IsCl i k'):k=k':=by
 obtain⟨o,ho,h1⟩:=h
 obtain⟨o',ho',h2⟩:=h'
 rw[ho]at ho'
 cases ho'
 exact h1.symm.trans h2
omit [Io] in
theorem als_inj{h1:Hp}: ∀ {l:List Nat} {h:Hp},c.AlsP l h h1-> ∀ i∈l,∀ j∈l,c.IsCl i .al->c.IsCl j .al->c.bd i=c.nx i+1->c.bd j=c.nx j+1->c.nx i=c.nx j->i=j
 | [],h,e,i,hi,_,_,_,_,_,_,_=>by cases hi
 |k::l,h,e,i,hi,j,hj,ci,cj,bi,bj,hij=>by
  rcases e with⟨hk,e⟩|⟨hk,hn,⟨hb,e⟩|⟨v,cs,hb,_,e⟩⟩
  ·have ni:i≠k:=fun e=>by subst e;cases c.cl_al hk ci
   have nj:j≠k:=fun e=>by subst e;cases c.cl_al hk cj
   exact als_inj e i ((List.mem_cons.1 hi).resolve_left ni) j ((List.mem_cons.1 hj).resolve_left nj) ci cj bi bj hij
  ·have ni:i≠k:=fun e=>by subst e;omega
   have nj:j≠k:=fun e=>by subst e;omega
   exact als_inj e i ((List.mem_cons.1 hi).resolve_left ni) j ((List.mem_cons.1 hj).resolve_left nj) ci cj bi bj hij
  ·by_cases ni:i=k<;>by_cases nj:j=k
   ·exact ni.trans nj.symm
   ·have:=(c.als_nx e j ((List.mem_cons.1 hj).resolve_left nj) cj).1
    have:h.next+1<=c.nx j:=this
    subst ni
    omega
   ·have:=(c.als_nx e i ((List.mem_cons.1 hi).resolve_left ni) ci).1
    have:h.next+1<=c.nx i:=this
    subst nj
    omega
   ·exact als_inj e i ((List.mem_cons.1 hi).resolve_left ni) j ((List.mem_cons.1 hj).resolve_left nj) ci cj bi bj hij
omit [Io] in
theorem run_inj: ∀ {pl:Plan} {h:Hp},c.RunP pl h-> ∀ i∈pl.als,∀ j∈pl.als,c.IsCl i .al->c.IsCl j .al->c.bd i=c.nx i+1->c.bd j=c.nx j+1->c.nx i=c.nx j->i=j
 | .last pre als,h,⟨_,e⟩,i,hi,j,hj,ci,cj,bi,bj,hij=>c.als_inj e i hi j hj ci cj bi bj hij
 | .cons pre als q rest,h,⟨_,h1,e,_,v,h2,_,_,_,_,hle,r⟩,i,hi,j,hj,ci,cj,bi,bj,hij=>by
  rcases List.mem_append.1 hi with hi|hi<;>rcases List.mem_append.1 hj with hj|hj
  ·exact c.als_inj e i hi j hj ci cj bi bj hij
  ·have:=(c.als_nx e i hi ci).2 bi
   have:=c.run_nx r j hj cj
   omega
  ·have:=(c.als_nx e j hj cj).2 bj
   have:=c.run_nx r i hi ci
   omega
  ·exact run_inj r i hi j hj ci cj bi bj hij
def Pend(g:G)(w:World)(h:Hp)(i:Nat):Prop:=
 c.bd i=c.nx i∨ ∃ v cs b C,∃ el:FT C,∃ vs,c.bd i=c.nx i+1/\c.FE i (c.rf i) (nilH (c.nx i))=.ok v (newO (nilH (c.nx i)) cs)/\g.m (c.nx i)=some (b,0)/\w.heap[b]? =some (.cells C el.el el.fz)/\
  ¬ g.imm b/\ ¬ Owned (g.to h.next) h b/\c.w0.heap.size<=b/\VRs (g.to (c.nx i)) w cs.toL vs/\ ∀ (j:Nat) (v:Value),vs[j]? =some v->C[j]? =some v
structure St(g:G)(w:World)(h:Hp)(A D:List Nat):Prop where
 hr:HR (g.to h.next) w h
 ext:Ext c.g0 c.w0 c.h0 (g.to h.next) w h
 pend: ∀ i∈A,i∈D->c.IsCl i .al->c.Pend g w h i
 dist: ∀ i∈A,∀ j∈A,i∈D->j∈D->c.IsCl i .al->c.IsCl j .al->c.bd i=c.nx i+1->c.bd j=c.nx j+1-> ∀ b,g.m (c.nx i)=some (b,0)->g.m (c.nx j)=some (b,0)->i=j
omit [Io] in
theorem newO_get{h:Hp}{cs:Rw}{id:Nat}:(newO h cs).objs.get id=if id=h.next then some cs else h.objs.get id:=Tr.get_set _ _ _ _
omit [Io] in
theorem newO_inj{h:Hp}{cs cs':Rw}(e:newO h cs=newO h cs'):cs=cs':=by
 have h1:(newO h cs).objs.get h.next=some cs:=by rw[newO_get,if_pos rfl]
 rw[e,newO_get,if_pos rfl]at h1
 exact(Option.some.inj h1).symm
theorem adopt{g:G}{w:World}{h:Hp}(H:HR (g.to h.next) w h){b:Nat}{C:Array Value}{el:FT C}{cs:Rw}{vs:List Value}(hm:g.m h.next=some (b,0))
 (hw:w.heap[b]? =some (.cells C el.el el.fz))(hi: ¬ g.imm b)(ho: ¬ Owned (g.to h.next) h b)(hv:VRs (g.to h.next) w cs.toL vs)(hC: ∀ (j:Nat) (v:Value),vs[j]? =some v->C[j]? =some v):
 HR (g.to (newO h cs).next) w (newO h cs)/\ ∀ b',Owned (g.to (newO h cs).next) (newO h cs) b'->Owned (g.to h.next) h b'∨b'=b:=by
 have hn:(newO h cs).next=h.next+1:=rfl
 have hM:=mono_to g w (N:=h.next) (M:=h.next+1) (by omega)
 have hle: ∀ id cs',h.objs.get id=some cs'->id<h.next:=by
  intro id cs' e
  refine Classical.byContradiction fun k=>?_
  obtain⟨b',s,_,_,_,hm',_⟩:=H.objs id cs' e
  rw[H.fresh id (by omega)]at hm'
  cases hm'
 have hto: ∀ id,id<h.next->(g.to (h.next+1)).m id=(g.to h.next).m id:=by
  intro id k
  simp only[G.to]
  rw[if_pos (by omega),if_pos k]
 have hat:(g.to (h.next+1)).m h.next=some (b,0):=by
  simp only[G.to]
  rw[if_pos (by omega)]
  exact hm
 rw[hn]
 refine⟨⟨?_,?_,?_,fun k i=>H.imm k i,fun p hp=>H.tb p hp⟩,?_⟩
 ·intro id hid
  have:h.next+1<=id:=hid
  simp only[G.to]
  rw[if_neg (by omega)]
 ·intro id cs' e
  rw[newO_get]at e
  by_cases hid:id=h.next
  ·subst hid
   rw[if_pos rfl]at e
   cases e
   exact⟨b,0,C,el,vs,hat,hw,hi,VRs.mono' hM _ _ hv,by simpa using hC⟩
  ·rw[if_neg hid]at e
   obtain⟨b',s,C',el',vs',hm',hw',hi',hv',hc'⟩:=H.objs id cs' e
   exact⟨b',s,C',el',vs',by rw[hto id (hle id cs' e)];exact hm',hw',hi',VRs.mono' hM _ _ hv',hc'⟩
 ·intro id id' b1 s s' cs1 cs2 e1 e2 m1 m2
  rw[newO_get]at e1 e2
  by_cases h1:id=h.next<;>by_cases h2:id'=h.next
  ·exact h1.trans h2.symm
  ·subst h1
   rw[if_neg h2]at e2
   rw[hat]at m1
   obtain⟨rfl,_⟩:=Prod.mk.inj (Option.some.inj m1)
   rw[hto id' (hle id' _ e2)]at m2
   exact absurd ⟨id',cs2,s',e2,m2⟩ ho
  ·subst h2
   rw[if_neg h1]at e1
   rw[hat]at m2
   obtain⟨rfl,_⟩:=Prod.mk.inj (Option.some.inj m2)
   rw[hto id (hle id _ e1)]at m1
   exact absurd ⟨id,cs1,s,e1,m1⟩ ho
  ·rw[if_neg h1]at e1
   rw[if_neg h2]at e2
   rw[hto id (hle id _ e1)]at m1
   rw[hto id' (hle id' _ e2)]at m2
   exact H.inj id id' b1 s s' cs1 cs2 e1 e2 m1 m2
 ·rintro b' ⟨id,cs',s,e,m⟩
  rw[newO_get]at e
  by_cases hid:id=h.next
  ·subst hid
   rw[hat]at m
   obtain⟨rfl,_⟩:=Prod.mk.inj (Option.some.inj m)
   exact .inr rfl
  ·rw[if_neg hid]at e
   rw[hto id (hle id _ e)]at m
   exact .inl ⟨id,cs',s,e,m⟩
omit [Io] in
theorem ext_adopt{g:G}{w:World}{h:Hp}{b:Nat}{cs:Rw}(E:Ext c.g0 c.w0 c.h0 (g.to h.next) w h)(hb:c.w0.heap.size<=b)
 (hO: ∀ b',Owned (g.to (newO h cs).next) (newO h cs) b'->Owned (g.to h.next) h b'∨b'=b):Ext c.g0 c.w0 c.h0 (g.to (newO h cs).next) w (newO h cs) where
 os:=E.os
 tape:=E.tape
 output:=E.output
 size:=E.size
 next:=Nat.le_trans E.next (Nat.le_succ _)
 m:=fun id x e=>(mono_to g w (N:=h.next) (M:=h.next+1) (by omega)).m id x (E.m id x e)
 old:=E.old
 rows:=E.rows
 imm:=E.imm
 imm':=E.imm'
 own':=fun k o=>by
  rcases hO k o with o|rfl
  ·exact E.own' k o
  ·exact .inr hb
theorem settle{g:G}{w:World}{D A:List Nat}{h1:Hp}: ∀ (l:List Nat) (h:Hp),c.AlsP l h h1->(∀ i∈l,c.IsCl i .al->i∈D)->c.St g w h (l++A) D->
 (∀ i∈A,c.IsCl i .al->h1.next<=c.nx i)->c.St g w h1 A D
 | [],h,e,_,S,_=>by cases e;exact S
 |i::l,h,e,hd,S,hA=>by
  have hd':=fun j hj=>hd j (List.mem_cons_of_mem i hj)
  have S':c.St g w h (l++A) D:=⟨S.hr,S.ext,fun j hj=>S.pend j (List.mem_cons_of_mem _ hj),fun j hj k hk=>S.dist j (List.mem_cons_of_mem _ hj) k (List.mem_cons_of_mem _ hk)⟩
  rcases e with⟨_,e⟩|⟨hk,hn,⟨hb,e⟩|⟨v,cs,hb,hF,e⟩⟩
  ·exact settle l h e hd' S' hA
  ·exact settle l h e hd' S' hA
  ·have hiD:=hd i List.mem_cons_self hk
   rcases S.pend i List.mem_cons_self hiD hk with hp|⟨v',cs',b,C,el,vs,_,hF',hm,hw,him,hO,hb0,hv,hC⟩
   ·omega
   rw[hF]at hF'
   obtain⟨rfl,hcs⟩:=Ro.ok.inj hF'
   obtain rfl:=newO_inj hcs
   rw[hn]at hm hv
   obtain⟨hr',hO'⟩:=adopt S.hr hm hw him hO hv hC
   refine settle l (newO h cs) e hd' ⟨hr',c.ext_adopt S.ext hb0 hO',?_,S'.dist⟩ hA
   intro j hj hjD hjc
   rcases S'.pend j hj hjD hjc with hp|⟨v2,cs2,b2,C2,el2,vs2,hb2,hF2,hm2,hw2,him2,hO2,hb02,hv2,hC2⟩
   ·exact .inl hp
   ·refine .inr ⟨v2,cs2,b2,C2,el2,vs2,hb2,hF2,hm2,hw2,him2,fun o=>?_,hb02,hv2,hC2⟩
    rcases hO' _ o with o|rfl
    ·exact hO2 o
    ·have hjn:h.next+1<=c.nx j:=by
      rcases List.mem_append.1 hj with hj|hj
      ·exact(c.als_nx e j hj hjc).1
      ·exact Nat.le_trans (c.als_le e) (hA j hj hjc)
     have:=S.dist i List.mem_cons_self j (List.mem_cons_of_mem _ hj) hiD hjD hk hjc hb hb2 b2 (by rw[hn];exact hm) hm2
     subst this
     omega
end Cx
end Go.Ab

noncomputable section
namespace Go.Ab
variable [Io]
namespace Cx
variable (c:Cx)
structure Inv(g:G)(w:World)(h:Hp)(a:Act)(D past:List Nat)(pl:Plan):Prop where
 run:c.RunP pl h
 stat:c.StatP past pl
 closed:Closed c.ops.toList D
 chs: ∀ i,c.IsCl i .ch->i∈pl.chs∨i∈D
 chN: ∀ i∈pl.chs,i∉D
 pastD: ∀ j∈past,j∈D
 alc: ∀ i,c.IsCl i .al->i∈pl.als∨i∈D
 st:c.St g w h pl.als D
 dom: ∀ id x,g.m id=some x->id<h.next∨ ∃ i∈pl.als,i∈D/\c.IsCl i .al/\c.bd i=c.nx i+1/\id=c.nx i
 slots: ∀ j∈D,∀ d,c.Dst j d->d<c.nt/\ ∃ v,c.te.at d=some v/\VR (g.to (max (c.bd j) h.next)) w v (a.tmps.getD d undef)
 free: ∀ u v,u<512->(∀ j∈D,¬ c.Dst j u)->c.t0.at u=some v->u<c.nt/\VR (g.to h.next) w v (a.tmps.getD u undef)
 size:a.tmps.size=c.nt
 defers:a.defers=[]
variable {c}
omit [Io] in
theorem FE_eq{i:Nat}{o:Oper}(ho:c.ops[i]? =some o):c.FE i=gOp c.P c.call c.nt c.ops.toList o:=by unfold FE;rw[ho]
omit [Io] in
theorem Rds_eq{i:Nat}{o:Oper}(ho:c.ops[i]? =some o):c.Rds i=readsOf c.ops.toList o:=by unfold Rds;rw[ho]
omit [Io] in
theorem rfL_at{i:Nat}: ∀ (l:List Nat),(∀ u∈l,u<512)-> ∀ u v,u<512->(c.rfL i l).at u=some v->u∈l/\(((∃ j,c.Dst j u/\c.An i j)/\c.te.at u=some v)∨((¬ ∃ j,c.Dst j u/\c.An i j)/\c.t0.at u=some v))
 | [],_,u,v,hu,e=>by rw[rfL,Tm.at_none u hu]at e;cases e
 |x::l,hl,u,v,hu,e=>by
  rw[rfL,Tm.at_put _ _ _ _ (hl x List.mem_cons_self) hu]at e
  by_cases hx:u=x
  ·subst hx
   rw[if_pos rfl]at e
   refine⟨List.mem_cons_self,?_⟩
   by_cases hw: ∃ j,c.Dst j u/\c.An i j
   ·rw[if_pos hw]at e;exact .inl ⟨hw,e⟩
   ·rw[if_neg hw]at e;exact .inr ⟨hw,e⟩
  ·rw[if_neg hx]at e
   obtain⟨h1,h2⟩:=rfL_at l (fun y hy=>hl y (List.mem_cons_of_mem _ hy)) u v hu e
   exact⟨List.mem_cons_of_mem _ h1,h2⟩
theorem Inv.reads{g w h a D past pl}(I:c.Inv g w h a D past pl)(hnt:c.nt<=512){i N M:Nat}(hr:c.RdOk i M)(hiD:i∉D)(hD: ∀ j,c.An i j->j∈D)(hM:M<=N)(hN:h.next<=N):
 TR (g.to N) w c.nt (c.rf i) a.tmps:=by
 have hlt: ∀ u∈c.Rds i,u<512:=fun u hu=>Nat.lt_of_lt_of_le (hr u hu).1 hnt
 refine⟨hnt,I.size,fun u v hu e=>?_⟩
 obtain⟨hm,hor⟩:=rfL_at _ hlt u v hu e
 refine⟨(hr u hm).1,?_⟩
 rcases hor with⟨⟨j,hj,hA⟩,e⟩|⟨hno,e⟩
 ·rcases(hr u hm).2 with h1|h1
  ·obtain⟨_,hb⟩:=h1 j hj
   obtain⟨_,v',e',hv⟩:=I.slots j (hD j hA) u hj
   rw[e]at e'
   cases e'
   exact VR.mono' (mono_to g w (by omega)) _ _ hv
  ·exact absurd (I.closed j (hD j hA) i (h1 j hj)) hiD
 ·refine VR.mono' (mono_to g w hN) _ _ (I.free u v hu (fun j hjD hj=>?_) e).2
  rcases(hr u hm).2 with h1|h1
  ·exact hno ⟨j,hj,(h1 j hj).1⟩
  ·exact hiD (I.closed j hjD i (h1 j hj))
omit [Io] in
theorem put_get{a:Act}{od:Option Nat}{x:Value}{d:Nat}(hd:d<a.tmps.size):(a.put od x).tmps.getD d undef=if od=some d then x else a.tmps.getD d undef:=by
 cases od with
 |none=>rfl
 |some e=>
  show(a.tmps.setIfInBounds e x).getD d undef=_
  rw[Array.getD_eq_getD_getElem?,Array.getD_eq_getD_getElem?]
  by_cases he:e=d
  ·subst he
   rw[Array.getElem?_setIfInBounds_self_of_lt hd,if_pos rfl];rfl
  ·rw[Array.getElem?_setIfInBounds_ne he,if_neg (fun k=>he (Option.some.inj k))]
omit [Io] in
theorem put_size{a:Act}{od:Option Nat}{x:Value}:(a.put od x).tmps.size=a.tmps.size:=by
 cases od with
 |none=>rfl
 |some e=>show(a.tmps.setIfInBounds e x).size=_;simp
omit [Io] in
theorem put_defers{a:Act}{od:Option Nat}{x:Value}:(a.put od x).defers=a.defers:=by cases od<;>rfl
theorem slots_put{g:G}{w w':World}{g':G}{a:Act}{D:List Nat}{i:Nat}{o:Oper}{x:Value}{N N':Nat}(G0:c.Glob)(ho:c.ops[i]? =some o)
 (hs:a.tmps.size=c.nt)
 (slots: ∀ j∈D,∀ d,c.Dst j d->d<c.nt/\ ∃ v,c.te.at d=some v/\VR (g.to (max (c.bd j) N)) w v (a.tmps.getD d undef))
 (mono: ∀ j∈D,Mono (g.to (max (c.bd j) N)) w (g'.to (max (c.bd j) N')) w')(hi:i∉D)
 (hx: ∀ d,c.Dst i d->d<c.nt/\ ∃ v,c.te.at d=some v/\VR (g'.to (max (c.bd i) N')) w' v x):
 ∀ j∈i::D,∀ d,c.Dst j d->d<c.nt/\ ∃ v,c.te.at d=some v/\VR (g'.to (max (c.bd j) N')) w' v ((a.put o.dst x).tmps.getD d undef):=by
 intro j hj d hd
 by_cases hji:j=i
 ·subst hji
  obtain⟨h1,v,h2,h3⟩:=hx d hd
  refine⟨h1,v,h2,?_⟩
  obtain⟨o',ho',hd'⟩:=hd
  rw[ho]at ho'
  cases ho'
  rw[put_get (by omega),if_pos hd']
  exact h3
 ·obtain⟨h1,v,h2,h3⟩:=slots j ((List.mem_cons.1 hj).resolve_left hji) d hd
  refine⟨h1,v,h2,?_⟩
  rw[put_get (by omega),if_neg (fun k=>hji (G0.dst j i d hd ⟨o,ho,k⟩))]
  exact VR.mono' (mono j ((List.mem_cons.1 hj).resolve_left hji)) _ _ h3
theorem free_put{g:G}{w w':World}{g':G}{a:Act}{D:List Nat}{i:Nat}{o:Oper}{x:Value}{N N':Nat}(ho:c.ops[i]? =some o)(hs:a.tmps.size=c.nt)
 (free: ∀ u v,u<512->(∀ j∈D,¬ c.Dst j u)->c.t0.at u=some v->u<c.nt/\VR (g.to N) w v (a.tmps.getD u undef))(mono:Mono (g.to N) w (g'.to N') w'):
 ∀ u v,u<512->(∀ j∈i::D,¬ c.Dst j u)->c.t0.at u=some v->u<c.nt/\VR (g'.to N') w' v ((a.put o.dst x).tmps.getD u undef):=by
 intro u v hu hd e
 obtain⟨h1,h2⟩:=free u v hu (fun j hj=>hd j (List.mem_cons_of_mem _ hj)) e
 refine⟨h1,?_⟩
 rw[put_get (by omega),if_neg (fun k=>hd i List.mem_cons_self ⟨o,ho,k⟩)]
 exact VR.mono' mono _ _ h2
theorem Inv.put{g w h a D past pl}(G0:c.Glob)(I:c.Inv g w h a D past pl){i:Nat}{o:Oper}(ho:c.ops[i]? =some o)(hi:i∉D)(hC:Closed c.ops.toList (i::D))
 (hk:c.IsCl i .p0∨c.IsCl i .p1){v:AV}{x:Value}(hs:c.Slot i v)(hx:VR (g.to (max (c.bd i) h.next)) w v x):c.Inv g w h (a.put o.dst x) (i::D) past pl:=by
 have nal: ∀ j,c.IsCl j .al->j∈i::D->j∈D:=by
  intro j hj h
  refine(List.mem_cons.1 h).resolve_left fun e=>?_
  subst e
  rcases hk with hk|hk<;>cases c.cl_al hk hj
 exact
 {run:=I.run
  stat:=I.stat
  closed:=hC
  chs:=fun j hj=>(I.chs j hj).imp id (List.mem_cons_of_mem _)
  chN:=fun j hj h=>by
   rcases List.mem_cons.1 h with rfl|h
   ·have:c.IsCl j .ch:=by
     have key: ∀ {pl:Plan} {h:Hp},c.RunP pl h-> ∀ j∈pl.chs,c.IsCl j .ch:=by
      intro pl
      induction pl with
      |last pre als=>intro h r j hj;cases hj
      |cons pre als q rest ih=>
       intro h r j hj
       obtain⟨_,h1,_,hq,v,h2,_,_,_,_,_,r⟩:=r
       rcases List.mem_cons.1 hj with rfl|hj
       ·exact hq
       ·exact ih r j hj
     exact key I.run j hj
    rcases hk with hk|hk<;>cases c.cl_al hk this
   ·exact I.chN j hj h
  pastD:=fun j hj=>List.mem_cons_of_mem _ (I.pastD j hj)
  alc:=fun j hj=>(I.alc j hj).imp id (List.mem_cons_of_mem _)
  st:=⟨I.st.hr,I.st.ext,fun j hj hD hc=>I.st.pend j hj (nal j hc hD) hc,fun j hj k hk jD kD jc kc=>I.st.dist j hj k hk (nal j jc jD) (nal k kc kD) jc kc⟩
  dom:=fun n y e=>(I.dom n y e).imp id fun⟨j,hj,hD,r⟩=>⟨j,hj,List.mem_cons_of_mem _ hD,r⟩
  slots:=slots_put G0 ho I.size I.slots (fun j _=>mono_refl _ _) hi (fun d hd=>⟨(hs d hd).1,v,(hs d hd).2,hx⟩)
  free:=free_put ho I.size I.free (mono_refl _ _)
  size:=by rw[put_size];exact I.size
  defers:=by rw[put_defers];exact I.defers}
omit [Io] in
theorem run_chs: ∀ {pl:Plan} {h:Hp},c.RunP pl h-> ∀ j∈pl.chs,c.IsCl j .ch:=by
 intro pl
 induction pl with
 |last pre als=>intro h r j hj;cases hj
 |cons pre als q rest ih=>
  intro h r j hj
  obtain⟨_,h1,_,hq,v,h2,_,_,_,_,_,r⟩:=r
  rcases List.mem_cons.1 hj with rfl|hj
  ·exact hq
  ·exact ih r j hj
omit [Io] in
theorem pre_p1{pl:Plan}{h:Hp}(r:c.RunP pl h):c.P1s pl.pre h:=by
 cases pl with
 |last pre als=>exact r.1
 |cons pre als q rest=>exact r.1
omit [Io] in
theorem stat_p1{past:List Nat}{pl:Plan}(s:c.StatP past pl): ∀ i,c.IsCl i .p1->(∃ j∈past,c.An j i)∨(∃ j∈pl.chs,c.An i j)∨i∈pl.pre:=by
 cases pl with
 |last pre als=>exact fun i hi=>(s i hi).imp id .inr
 |cons pre als q rest=>exact s.1
omit [Io] in
theorem alloc_heap{w:World}{ob:Obj}{b:Nat}:(w.alloc ob).heap[b]? =if b=w.heap.size then some ob else w.heap[b]? :=by
 show(w.heap.push _)[b]? =_
 rw[Array.getElem?_push]
omit [Io] in
theorem mono_alloc{g g':G}{w:World}{ob:Obj}(hm: ∀ id x,g.m id=some x->g'.m id=some x)(hi:g'.imm=g.imm)(hb: ∀ b,g.imm b->b<w.heap.size):Mono g w g' (w.alloc ob):=
 ⟨hm,fun b i=>by rw[hi];exact i,fun b i=>by
  have:=hb b i
  rw[alloc_heap,if_neg (by omega)],fun b=>by
  unfold rowSize
  rw[alloc_heap]
  by_cases h:b=w.heap.size
  ·subst h;simp
  ·rw[if_neg h];exact Nat.le_refl _⟩
theorem pend_alloc{g g':G}{w:World}{h:Hp}{ob:Obj}{i:Nat}(hm: ∀ id x,g.m id=some x->g'.m id=some x)(hi:g'.imm=g.imm)(hb: ∀ b,g.imm b->b<w.heap.size)
 (hto:g'.to h.next=g.to h.next)(p:c.Pend g w h i):c.Pend g' (w.alloc ob) h i:=by
 rcases p with p|⟨v,cs,b,C,el,vs,h1,h2,h3,h4,h5,h6,h7,h8,h9⟩
 ·exact .inl p
 ·have hlt:=(Array.getElem?_eq_some_iff.1 h4).1
  refine .inr ⟨v,cs,b,C,el,vs,h1,h2,hm _ _ h3,by rw[alloc_heap,if_neg (by omega)];exact h4,by rw[hi];exact h5,by rw[hto];exact h6,h7,?_,h9⟩
  refine VRs.mono' ?_ _ _ h8
  refine mono_alloc ?_ (by simp only[G.to];exact hi) (by simp only[G.to];exact hb)
  intro id x e
  simp only[G.to]at e ⊢
  by_cases hid:id<c.nx i
  ·rw[if_pos hid]at e ⊢;exact hm _ _ e
  ·rw[if_neg hid]at e;cases e
end Cx
end Go.Ab

noncomputable section
namespace Go.Ab
variable [Io]
namespace Cx
variable {c:Cx}
omit [Io] in
theorem G.add_to{g:G}{id b N:Nat}(h:N<=id):(g.add id b).to N=g.to N:=by
 unfold Go.Ab.G.to G.add
 congr 1
 funext k
 by_cases hk:k<N
 ·simp only[hk,if_true]
  rw[if_neg (by omega)]
 ·simp only[hk,if_false]
theorem sim(G0:c.Glob){Q:Exit->Act->World->Prop}(K:Post c.g0 c.w0 c.h0 c.nt c.te c.hE (Q .normal)): ∀ (s D past:List Nat) (pl:Plan) (g:G) (w:World) (h:Hp) (a:Act),
 LinE c.ops D s->c.Inv g w h a D past pl->wpOps c.P c.ops Q s a w
 | [],D,past,pl,g,w,h,a,L,I=>by
  have hall: ∀ i,i<c.ops.size->i∈D:=L
  have hlt: ∀ {i k},c.IsCl i k->i<c.ops.size:=fun⟨o,ho,_⟩=>(Array.getElem?_eq_some_iff.1 ho).1
  show Q .normal a w
  cases pl with
  |cons pre als q rest=>
   exact absurd (hall q (hlt (run_chs I.run q List.mem_cons_self))) (I.chN q List.mem_cons_self)
  |last pre als=>
   have S:=c.settle (A:=[]) als h I.run.2 (fun i _ hc=>hall i (hlt hc)) (by rw[List.append_nil];exact I.st) (fun i hi=>by cases hi)
   refine K _ _ _ S.ext S.hr ⟨G0.nt,I.size,fun u v hu e=>?_⟩ I.defers
   have hle:=c.als_le I.run.2
   by_cases hd: ∃ j,c.Dst j u
   ·obtain⟨j,hj⟩:=hd
    obtain⟨o,ho,_⟩:=id hj
    have hjs:=(Array.getElem?_eq_some_iff.1 ho).1
    obtain⟨h1,v',e',hv⟩:=I.slots j (hall j hjs) u hj
    rw[e]at e'
    cases e'
    have:=G0.top j hjs
    exact⟨h1,VR.mono' (mono_to g w (by omega)) _ _ hv⟩
   ·rw[G0.same u hu (fun j hj=>hd ⟨j,hj⟩)]at e
    obtain⟨h1,h2⟩:=I.free u v hu (fun j _ hj=>hd ⟨j,hj⟩) e
    exact⟨h1,VR.mono' (mono_to g w hle) _ _ h2⟩
 |i::s,D,past,pl,g,w,h,a,⟨his,hiD,hE,L⟩,I=>by
  obtain⟨o,ho⟩: ∃ o,c.ops[i]? =some o:=⟨c.ops[i],Array.getElem?_eq_getElem his⟩
  obtain⟨hanc,hC⟩:=closed_next I.closed ho hE
  have himm: ∀ b,g.imm b->b<w.heap.size:=I.st.hr.imm
  cases hk:(cOp c.P c.call o.op).1 with
  |p0=>
   have hcl:c.IsCl i .p0:=⟨o,ho,hk⟩
   obtain⟨v,hF,hS,hR⟩:=G0.p0 i hcl
   have T:=I.reads G0.nt hR hiD hanc (N:=max (c.bd i) h.next) (by omega) (by omega)
   have e:gOp c.P c.call c.nt c.ops.toList o (c.rf i) (nilH 0)=.ok v (nilH 0):=by
    rw[<-FE_eq ho];exact hF _
   exact pure_step G0.call ho (.inl hk) (hc_nil (g:=g.to (max (c.bd i) h.next)) himm) T e fun x hx=>sim G0 K s _ _ _ _ _ _ _ L (I.put G0 ho hiD hC (.inl hcl) hS hx)
  |p1=>
   have hcl:c.IsCl i .p1:=⟨o,ho,hk⟩
   have hpre:i∈pl.pre:=by
    rcases stat_p1 I.stat i hcl with⟨j,hj,hA⟩|⟨j,hj,hA⟩|h
    ·exact absurd (I.closed j (I.pastD j hj) i hA) hiD
    ·exact absurd (hanc j hA) (I.chN j hj)
    ·exact h
   obtain⟨v,hF,hS,hR⟩:=pre_p1 I.run i hpre hcl
   have T:=I.reads G0.nt hR hiD hanc (N:=h.next) (Nat.le_refl _) (Nat.le_refl _)
   have e:gOp c.P c.call c.nt c.ops.toList o (c.rf i) h=.ok v h:=by
    rw[<-FE_eq ho];exact hF
   exact pure_step G0.call ho (.inr hk) I.st.hr.toHC T e fun x hx=>sim G0 K s _ _ _ _ _ _ _ L
    (I.put G0 ho hiD hC (.inr hcl) hS (VR.mono' (mono_to g w (by omega)) _ _ hx))
  |al=>
   have hcl:c.IsCl i .al:=⟨o,ho,hk⟩
   obtain⟨v,hS,hR,hF⟩:=G0.al i hcl
   have hin:i∈pl.als:=(I.alc i hcl).resolve_right hiD
   have hnx:=c.run_nx I.run i hin hcl
   have T:=I.reads G0.nt hR hiD hanc (N:=c.nx i) (Nat.le_refl _) hnx
   obtain⟨h',hh',hF'⟩: ∃ h',((h'=nilH (c.nx i)/\c.bd i=c.nx i)∨ ∃ cs,h'=newO (nilH (c.nx i)) cs/\c.bd i=c.nx i+1)/\c.FE i (c.rf i) (nilH (c.nx i))=.ok v h':=by
    rcases hF with⟨h1,h2⟩|⟨cs,h1,h2⟩
    ·exact⟨_,.inl ⟨rfl,h2⟩,h1⟩
    ·exact⟨_,.inr ⟨cs,rfl,h2⟩,h1⟩
   have e:gOp c.P c.call c.nt c.ops.toList o (c.rf i) (nilH (c.nx i))=.ok v h':=by
    rw[<-FE_eq ho];exact hF'
   have nal: ∀ j,j∈i::D->j≠i->j∈D:=fun j hj hne=>(List.mem_cons.1 hj).resolve_left hne
   have fin: ∀ (g':G) (w':World) (x:Value),(∀ id y,g.m id=some y->g'.m id=some y)->g'.imm=g.imm->g'.to h.next=g.to h.next->(w'=w∨ ∃ ob,w'=w.alloc ob)->
    c.Pend g' w' h i->(∀ id y,g'.m id=some y->g.m id=some y∨(c.bd i=c.nx i+1/\id=c.nx i))->
    (∀ j∈pl.als,j∈D->c.IsCl j .al->c.bd j=c.nx j+1->c.bd i=c.nx i+1-> ∀ b,g'.m (c.nx i)=some (b,0)->g'.m (c.nx j)=some (b,0)->i=j)->
    VR (g'.to (max (c.bd i) h.next)) w' v x->c.Inv g' w' h (a.put o.dst x) (i::D) past pl:=by
    intro g' w' x hm hi hto hw hp hdom hdist hx
    have M: ∀ N,Mono (g.to N) w (g'.to N) w':=by
     intro N
     have hmN: ∀ id y,(g.to N).m id=some y->(g'.to N).m id=some y:=by
      intro id y e
      simp only[Go.Ab.G.to]at e ⊢
      by_cases hid:id<N
      ·rw[if_pos hid]at e ⊢;exact hm _ _ e
      ·rw[if_neg hid]at e;cases e
     rcases hw with rfl|⟨ob,rfl⟩
     ·exact⟨hmN,fun b k=>by simp only[Go.Ab.G.to]at k ⊢;rw[hi];exact k,fun _ _=>rfl,fun _=>Nat.le_refl _⟩
     ·exact mono_alloc hmN (by simp only[Go.Ab.G.to];exact hi) (by simp only[Go.Ab.G.to];exact himm)
    have hpend: ∀ j,c.Pend g w h j->c.Pend g' w' h j:=by
     intro j p
     rcases hw with rfl|⟨ob,rfl⟩
     ·rcases p with p|⟨v,cs,b,C,el,vs,h1,h2,h3,h4,h5,h6,h7,h8,h9⟩
      ·exact .inl p
      ·exact .inr ⟨v,cs,b,C,el,vs,h1,h2,hm _ _ h3,h4,by rw[hi];exact h5,by rw[hto];exact h6,h7,VRs.mono' (M _) _ _ h8,h9⟩
     ·exact pend_alloc hm hi himm hto p
    have hst:HR (g'.to h.next) w' h/\Ext c.g0 c.w0 c.h0 (g'.to h.next) w' h:=by
     rw[hto]
     rcases hw with rfl|⟨ob,rfl⟩
     ·exact⟨I.st.hr,I.st.ext⟩
     ·obtain⟨E,H⟩:=junk_ext I.st.hr ob
      exact⟨H,I.st.ext.trans E⟩
    exact
    {run:=I.run
     stat:=I.stat
     closed:=hC
     chs:=fun j hj=>(I.chs j hj).imp id (List.mem_cons_of_mem _)
     chN:=fun j hj h=>by
      rcases List.mem_cons.1 h with rfl|h
      ·cases c.cl_al hcl (run_chs I.run j hj)
      ·exact I.chN j hj h
     pastD:=fun j hj=>List.mem_cons_of_mem _ (I.pastD j hj)
     alc:=fun j hj=>(I.alc j hj).imp id (List.mem_cons_of_mem _)
     st:=⟨hst.1,hst.2,fun j hj hjD hjc=>by
      by_cases hji:j=i
      ·subst hji;exact hp
      ·exact hpend j (I.st.pend j hj (nal j hjD hji) hjc),fun j hj k hk jD kD jc kc bj bk b mj mk=>by
      by_cases hji:j=i<;>by_cases hki:k=i
      ·exact hji.trans hki.symm
      ·subst hji
       exact hdist k hk (nal k kD hki) kc bk bj b mj mk
      ·subst hki
       exact(hdist j hj (nal j jD hji) jc bj bk b mk mj).symm
      ·have nj:g.m (c.nx j)=some (b,0):=by
        rcases hdom _ _ mj with m|⟨b1,b2⟩
        ·exact m
        ·exact absurd (c.run_inj I.run j hj i hin jc hcl bj b1 b2) hji
       have nk:g.m (c.nx k)=some (b,0):=by
        rcases hdom _ _ mk with m|⟨b1,b2⟩
        ·exact m
        ·exact absurd (c.run_inj I.run k hk i hin kc hcl bk b1 b2) hki
       exact I.st.dist j hj k hk (nal j jD hji) (nal k kD hki) jc kc bj bk b nj nk⟩
     dom:=fun n y e=>by
      rcases hdom n y e with m|⟨b1,b2⟩
      ·exact(I.dom n y m).imp id fun⟨j,hj,hD,r⟩=>⟨j,hj,List.mem_cons_of_mem _ hD,r⟩
      ·exact .inr ⟨i,hin,List.mem_cons_self,hcl,b1,b2⟩
     slots:=slots_put G0 ho I.size I.slots (fun j _=>M _) hiD (fun d hd=>⟨(hS d hd).1,v,(hS d hd).2,hx⟩)
     free:=free_put ho I.size I.free (M _)
     size:=by rw[put_size];exact I.size
     defers:=by rw[put_defers];exact I.defers}
   refine new_step G0.call ho hk (hc_nil (g:=g.to (c.nx i)) himm) T e (fun h1 x w' hw hv=>?_) (fun cs C el vs x h1 hvs hCv hv=>?_)
   ·have hb:c.bd i=c.nx i:=by
     rcases hh' with⟨_,h2⟩|⟨cs,h2,_⟩
     ·exact h2
     ·rw[h2]at h1
      have:=congrArg Hp.next h1
      exact absurd this (Nat.succ_ne_self _)
    exact sim G0 K s _ _ _ _ _ _ _ L (fin g w' x (fun _ _ m=>m) rfl rfl hw (.inl hb) (fun id y m=>.inl m) (fun j _ _ _ _ k=>by omega) (hv _ _))
   ·have hb:c.bd i=c.nx i+1:=by
     rcases hh' with⟨h2,_⟩|⟨cs',_,h2⟩
     ·rw[h2]at h1
      have:=congrArg Hp.next h1
      exact absurd this.symm (Nat.succ_ne_self _)
     ·exact h2
    have hnone:g.m (c.nx i)=none:=by
     cases hm:g.m (c.nx i)with
     |none=>rfl
     |some y=>
      rcases I.dom _ _ hm with h|⟨j,hj,hD,hjc,hjb,hje⟩
      ·omega
      ·have:=c.run_inj I.run i hin j hj hcl hjc hb hjb hje
       exact absurd (this▸hD) hiD
    have hm': ∀ id y,g.m id=some y->(g.add (c.nx i) w.heap.size).m id=some y:=by
     intro id y m
     simp only[G.add]
     rw[if_neg (fun k=>by rw[k,hnone]at m;cases m)]
     exact m
    have hat:(g.add (c.nx i) w.heap.size).m (c.nx i)=some (w.heap.size,0):=by simp[G.add]
    have hto:(g.add (c.nx i) w.heap.size).to h.next=g.to h.next:=G.add_to hnx
    have hnew:(w.alloc (.cells C el)).heap[w.heap.size]? =some (.cells C el (0,0)):=by rw[alloc_heap,if_pos rfl]
    have hrow:C.size<=rowSize (w.alloc (.cells C el)) w.heap.size:=by rw[rowSize_alloc];exact Nat.le_refl _
    rw[h1]at hF'
    refine sim G0 K s _ _ _ _ _ _ _ L (fin (g.add (c.nx i) w.heap.size) _ x hm' rfl hto (.inr ⟨_,rfl⟩) (.inr ⟨v,cs,w.heap.size,C,FT.nw C el,vs,hb,hF',hat,hnew,?_,?_,I.st.ext.size,?_,hCv⟩)
     (fun id y m=>?_) (fun j hj hjD hjc hjb _ b m1 m2=>?_) (hv _ _ ?_ hrow))
    ·intro k
     exact absurd (himm _ k) (Nat.lt_irrefl _)
    ·rw[hto]
     rintro⟨id,cs',s,e,m⟩
     obtain⟨_,_,_,hw,_⟩:=I.st.hr.row e m
     have:=(Array.getElem?_eq_some_iff.1 hw).1
     omega
    ·have hT:(g.add (c.nx i) w.heap.size).to (c.nx i)=g.to (c.nx i):=G.add_to (Nat.le_refl _)
     rw[hT]
     exact VRs.mono' (mono_alloc (fun _ _ m=>m) rfl (by simp only[Go.Ab.G.to];exact himm)) _ _ hvs
    ·by_cases hid:id=c.nx i
     ·exact .inr ⟨hb,hid⟩
     ·simp only[G.add,if_neg hid]at m
      exact .inl m
    ·rw[hat]at m1
     obtain⟨rfl,_⟩:=Prod.mk.inj (Option.some.inj m1)
     have hne:c.nx j≠c.nx i:=fun k=>hiD (c.run_inj I.run i hin j hj hcl hjc hb hjb k.symm▸hjD)
     simp only[G.add,if_neg hne]at m2
     rcases I.st.pend j hj hjD hjc with hp|⟨_,_,b,_,_,_,_,_,h3,h4,_⟩
     ·omega
     ·rw[m2]at h3
      obtain⟨rfl,_⟩:=Prod.mk.inj (Option.some.inj h3)
      have:=(Array.getElem?_eq_some_iff.1 h4).1
      omega
    ·show(Go.Ab.G.to _ _).m (c.nx i)=_
     simp only[Go.Ab.G.to]
     rw[if_pos (by omega)]
     exact hat
  |ch=>
   have hcl:c.IsCl i .ch:=⟨o,ho,hk⟩
   have hin:=(I.chs i hcl).resolve_right hiD
   cases pl with
   |last pre als=>cases hin
   |cons pre als q rest=>
    have hq:i=q:=by
     rcases List.mem_cons.1 hin with h|h
     ·exact h
     ·exact absurd (hanc q (I.stat.2.2.1 i h)) (I.chN q List.mem_cons_self)
    subst hq
    obtain⟨_,h1,hals,_,v,h2,hF,hS,hR,hb,hle,hrun⟩:=I.run
    have hle1:=c.als_le hals
    have S:=c.settle als h hals (fun j hj hc=>hanc j (I.stat.2.1 j hj hc)) I.st (fun j hj hc=>Nat.le_trans hle (c.run_nx hrun j hj hc))
    have T:=I.reads G0.nt hR hiD hanc (N:=h1.next) (Nat.le_refl _) hle1
    have e:gOp c.P c.call c.nt c.ops.toList o (c.rf i) h1=.ok v h2:=by
     rw[<-FE_eq ho];exact hF
    refine step_ok G0.call ho S.hr T e fun g' w' x E H' hv=>?_
    obtain⟨G',hG'⟩: ∃ G':G,G'=⟨fun id=>if id<h2.next then g'.m id else g.m id,g'.imm⟩:=⟨_,rfl⟩
    have hto:G'.to h2.next=g':=by
     rw[hG']
     unfold Go.Ab.G.to
     cases g' with
     |mk m im=>
      simp only[G.mk.injEq,and_true]
      funext id
      by_cases hid:id<h2.next
      ·simp only[hid,if_true]
      ·simp only[hid,if_false]
       exact(H'.fresh id (by omega)).symm
    have M0:=E.mono S.hr.toHC
    have hrest: ∀ id y,g.m id=some y->h1.next<=id->h2.next<=id/\ ∃ j∈rest.als,j∈D/\c.IsCl j .al/\c.bd j=c.nx j+1/\id=c.nx j:=by
     intro id y m hid
     rcases I.dom id y m with h|⟨j,hj,hjD,hjc,hjb,rfl⟩
     ·omega
     ·rcases List.mem_append.1 hj with hj|hj
      ·have:=(c.als_nx hals j hj hjc).2 hjb
       omega
      ·exact⟨c.run_nx hrun j hj hjc,j,hj,hjD,hjc,hjb,rfl⟩
    have hm: ∀ id y,g.m id=some y->G'.m id=some y:=by
     intro id y m
     rw[hG']
     show(if id<h2.next then g'.m id else g.m id)=some y
     by_cases hid:id<h2.next
     ·rw[if_pos hid]
      have:id<h1.next:=by
       refine Classical.byContradiction fun k=>?_
       have:=(hrest id y m (by omega)).1
       omega
      exact E.m id y (by simp only[Go.Ab.G.to];rw[if_pos this];exact m)
     ·rw[if_neg hid];exact m
    have him:G'.imm=g'.imm:=by rw[hG']
    have M: ∀ B B',B<=B'->Mono (g.to B) w (G'.to B') w':=by
     intro B B' hB
     refine⟨?_,fun b k=>?_,fun b k=>?_,E.rows⟩
     ·intro id y k
      simp only[Go.Ab.G.to]at k ⊢
      by_cases hid:id<B
      ·rw[if_pos hid]at k
       rw[if_pos (by omega)]
       exact hm id y k
      ·rw[if_neg hid]at k;cases k
     ·show G'.imm b
      rw[him]
      exact E.imm b k
     ·exact E.old b (himm b k) (S.hr.not_owned k)
    refine sim G0 K s (i::D) (i::past) rest G' w' h2 (a.put o.dst x) L ?_
    have als_sub: ∀ j∈rest.als,j∈als++rest.als:=fun j hj=>List.mem_append_right _ hj
    have nal: ∀ j,c.IsCl j .al->j∈i::D->j∈D:=by
     intro j hj h
     refine(List.mem_cons.1 h).resolve_left fun e=>?_
     subst e
     cases c.cl_al hcl hj
    exact
    {run:=hrun
     stat:=I.stat.2.2.2
     closed:=hC
     chs:=fun j hj=>by
      rcases I.chs j hj with h|h
      ·rcases List.mem_cons.1 h with rfl|h
       ·exact .inr List.mem_cons_self
       ·exact .inl h
      ·exact .inr (List.mem_cons_of_mem _ h)
     chN:=fun j hj h=>by
      rcases List.mem_cons.1 h with rfl|h
      ·
       exact absurd (hanc j (I.stat.2.2.1 j hj)) hiD
      ·exact I.chN j (List.mem_cons_of_mem _ hj) h
     pastD:=fun j hj=>by
      rcases List.mem_cons.1 hj with rfl|hj
      ·exact List.mem_cons_self
      ·exact List.mem_cons_of_mem _ (I.pastD j hj)
     alc:=fun j hj=>by
      rcases I.alc j hj with h|h
      ·rcases List.mem_append.1 h with h|h
       ·exact .inr (List.mem_cons_of_mem _ (hanc j (I.stat.2.1 j h hj)))
       ·exact .inl h
      ·exact .inr (List.mem_cons_of_mem _ h)
     st:=⟨by rw[hto];exact H',by rw[hto];exact S.ext.trans E,fun j hj hjD hjc=>by
      rcases S.pend j hj (nal j hjc hjD) hjc with p|⟨v,cs,b,C,el,vs,h1',h2',h3,h4,h5,h6,h7,h8,h9⟩
      ·exact .inl p
      ·have hlt:=(Array.getElem?_eq_some_iff.1 h4).1
       refine .inr ⟨v,cs,b,C,el,vs,h1',h2',hm _ _ h3,by rw[E.old b hlt h6];exact h4,?_,?_,h7,VRs.mono' (M _ _ (Nat.le_refl _)) _ _ h8,h9⟩
       ·rw[him]
        intro k
        rcases E.imm' b k with k|k|k
        ·exact h5 k
        ·exact h6 k
        ·omega
       ·rw[hto]
        intro k
        rcases E.own' b k with k|k
        ·exact h6 k
        ·omega,fun j hj k hk jD kD jc kc bj bk b mj mk=>by
      have e1: ∀ l∈rest.als,l∈D->c.IsCl l .al->c.bd l=c.nx l+1->G'.m (c.nx l)=some (b,0)->g.m (c.nx l)=some (b,0):=by
       intro l hl lD lc lb ml
       have:=c.run_nx hrun l hl lc
       rw[hG']at ml
       simp only at ml
       rw[if_neg (by omega)]at ml
       exact ml
      exact I.st.dist j (als_sub j hj) k (als_sub k hk) (nal j jc jD) (nal k kc kD) jc kc bj bk b (e1 j hj (nal j jc jD) jc bj mj) (e1 k hk (nal k kc kD) kc bk mk)⟩
     dom:=fun n y m=>by
      by_cases hn:n<h2.next
      ·exact .inl hn
      ·rw[hG']at m
       simp only at m
       rw[if_neg hn]at m
       obtain⟨_,j,hj,hjD,r⟩:=hrest n y m (by omega)
       exact .inr ⟨j,hj,List.mem_cons_of_mem _ hjD,r⟩
     slots:=slots_put G0 ho I.size I.slots (fun j _=>M _ _ (by omega)) hiD (fun d hd=>⟨(hS d hd).1,v,(hS d hd).2,by
      have:max (c.bd i) h2.next=h2.next:=by omega
      rw[this,hto];exact hv⟩)
     free:=free_put ho I.size I.free (M _ _ (by omega))
     size:=by rw[put_size];exact I.size
     defers:=by rw[put_defers];exact I.defers}
end Cx
end Go.Ab

noncomputable section
namespace Go.Ab
variable [Io]
def eqSc:Value->Value->Bool
 | .string a,.string b=>a.data.toList == b.data.toList
 | .pointer none,.pointer none=>true
 | .map none,.map none=>true
 | .nilFunc,.nilFunc=>true
 | .nilIface,.nilIface=>true
 | .slice none n c,.slice none n' c'=>Nat.beq n n'&&Nat.beq c c'
 | _,_=>false
mutual
def eqA:AV->AV->Bool
 | .int k n,.int k' n'=>eqK k k'&&eqI n n'
 | .bool a,.bool b=> !(xor a b)
 | .sc a,.sc b=>eqSc a b
 | .agg a,.agg b=>eqAs a b
 | .tup a,.tup b=>eqAs a b
 | .ref i o,.ref i' o'=>Nat.beq i i'&&Nat.beq o o'
 | .hsl i o n s,.hsl i' o' n' s'=>Nat.beq i i'&&Nat.beq o o'&&Nat.beq n n'&&Nat.beq s s'
 | .isl n a,.isl m b=>Nat.beq n m&&eqAs a b
 | .iptr a,.iptr b=>eqAs a b
 | .esl,.esl=>true
 | .nel,.nel=>true
 | .fn f a,.fn f' b=>Nat.beq f f'&&eqAs a b
 | .sym k s lo hi o,.sym k' s' lo' hi' o'=>eqK k k'&&(eqSV s s'&&(eqI lo lo'&&(eqI hi hi'&&eqI o o')))
 | .any,.any=>true
 | _,_=>false
def eqAs:List AV->List AV->Bool
 | [],[]=>true
 |a::l,b::r=>eqA a b&&eqAs l r
 | _,_=>false
end
omit [Io] in
theorem eqI_iff'{a b:Int}(h:eqI a b=true):a=b:=by
 cases a<;>cases b<;>simp[eqI]at h<;>simp[h]
omit [Io] in
theorem bytes_eq{a b:ByteArray}(h:(a.data.toList == b.data.toList)=true):a=b:=by
 cases a with
 |mk a=>cases b with
  |mk b=>
   congr 1
   exact Array.toList_inj.1 (by simpa using h)
omit [Io] in
theorem eqSc_iff{a b:Value}(h:eqSc a b=true):a=b:=by
 unfold eqSc at h
 split at h
 ·rw[bytes_eq h]
 all_goals first|rfl|(cases h;done)|(rw[Bool.and_eq_true]at h;rw[Nat.eq_of_beq_eq_true h.1,Nat.eq_of_beq_eq_true h.2])
section
omit [Io]
mutual
theorem eqA_iff: ∀ (a b:AV),eqA a b=true->a=b
 | .int k n,b,h=>by cases b<;>simp only[eqA,Bool.and_eq_true]at h<;>try cases h
                    rename_i h1 h2
                    rw[eqK_iff.1 h1,eqI_iff' h2]
 | .bool x,b,h=>by cases b<;>simp only[eqA]at h<;>try cases h
                   rename_i y
                   cases x<;>cases y<;>first|rfl|cases h
 | .sc x,b,h=>by cases b<;>simp only[eqA]at h<;>try cases h
                 rw[eqSc_iff h]
 | .agg x,b,h=>by cases b<;>simp only[eqA]at h<;>try cases h
                  rw[eqAs_iff _ _ h]
 | .tup x,b,h=>by cases b<;>simp only[eqA]at h<;>try cases h
                  rw[eqAs_iff _ _ h]
 | .ref i o,b,h=>by cases b<;>simp only[eqA,Bool.and_eq_true,Nat.beq_eq]at h<;>try cases h
                    rename_i h1 h2
                    rw[h1,h2]
 | .hsl i o n s,b,h=>by cases b<;>simp only[eqA,Bool.and_eq_true,Nat.beq_eq]at h<;>try (cases h;done)
                        obtain⟨⟨⟨h1,h2⟩,h3⟩,h4⟩:=h
                        rw[h1,h2,h3,h4]
 | .isl n x,b,h=>by cases b<;>simp only[eqA,Bool.and_eq_true,Nat.beq_eq]at h<;>try cases h
                    rename_i h1 h2
                    rw[h1,eqAs_iff _ _ h2]
 | .iptr x,b,h=>by cases b<;>simp only[eqA]at h<;>try cases h
                   rw[eqAs_iff _ _ h]
 | .esl,b,h=>by cases b<;>simp only[eqA]at h<;>first|rfl|cases h
 | .nel,b,h=>by cases b<;>simp only[eqA]at h<;>first|rfl|cases h
 | .any,b,h=>by cases b<;>simp only[eqA]at h<;>first|rfl|cases h
 | .sym k s lo hi o,b,h=>by cases b<;>simp only[eqA,Bool.and_eq_true]at h<;>try (cases h;done)
                            obtain⟨h1,h2,h3,h4,h5⟩:=h
                            rw[eqK_iff.1 h1,eqSV_iff h2,eqI_iff' h3,eqI_iff' h4,eqI_iff' h5]
 | .fn f x,b,h=>by cases b<;>simp only[eqA,Bool.and_eq_true,Nat.beq_eq]at h<;>try cases h
                   rename_i h1 h2
                   rw[h1,eqAs_iff _ _ h2]
theorem eqAs_iff: ∀ (a b:List AV),eqAs a b=true->a=b
 | [],b,h=>by cases b with
  |nil=>rfl
  |cons _ _=>simp[eqAs]at h
 |a::l,b,h=>by
  cases b with
  |nil=>simp[eqAs]at h
  |cons c r=>
   simp only[eqAs,Bool.and_eq_true]at h
   rw[eqA_iff _ _ h.1,eqAs_iff _ _ h.2]
end
end
def ck(s:Opd)(f:OpF)(k:RgF):RgF:=fun t h=>Ro.rec Rt.bad (fun v _=>Option.rec Rt.bad (fun u=>Bool.rec Rt.bad (k t h) (eqA u v)) (s t)) (f t h)
def mn(f:OpF):OpF:=fun t h=>Ro.rec Ro.bad (fun v h'=>Bool.rec Ro.bad (Ro.ok v h') (Nat.ble h.next h'.next)) (f t h)
def eqCl:Cl->Cl->Bool
 | .p0,.p0| .p1,.p1| .al,.al| .ch,.ch=>true
 | _,_=>false
omit [Io] in
theorem eqCl_iff{a b:Cl}(h:eqCl a b=true):a=b:=by cases a<;>cases b<;>first|rfl|cases h
def memB(i:Nat)(l:List Nat):Bool:=List.rec false (fun a _ ih=>Bool.rec ih true (Nat.beq a i)) l
omit [Io] in
theorem memB_iff{i:Nat}: ∀ {l:List Nat},memB i l=true↔i∈l
 | []=>by simp[memB]
 |a::l=>by
  show(Bool.rec (memB i l) true (Nat.beq a i):Bool)=true↔_
  cases h:Nat.beq a i with
  |true=>
   have:=Nat.eq_of_beq_eq_true h
   subst this
   simp
  |false=>
   have: ¬ i=a:=fun e=>by subst e;simp at h
   simp only[List.mem_cons,this,false_or]
   exact memB_iff
def anyB(p:Nat->Bool)(l:List Nat):Bool:=List.rec false (fun a _ ih=>Bool.rec ih true (p a)) l
omit [Io] in
theorem anyB_iff{p:Nat->Bool}: ∀ {l:List Nat},anyB p l=true↔ ∃ i∈l,p i=true
 | []=>by simp[anyB]
 |a::l=>by
  show(Bool.rec (anyB p l) true (p a):Bool)=true↔_
  cases h:p a with
  |true=>simp[h]
  |false=>simp only[List.mem_cons,exists_eq_or_imp,h,Bool.false_eq_true,false_or];exact anyB_iff
def allI(p:Nat->Oper->Bool)(l:List Oper):Nat->Bool:=
 List.rec (fun _=>true) (fun o _ ih i=>Bool.rec false (ih (Nat.add i 1)) (p i o)) l
omit [Io] in
theorem allI_iff'{p:Nat->Oper->Bool}: ∀ {l:List Oper} {k:Nat},allI p l k=true-> ∀ i o,l[i]? =some o->p (k+i) o=true
 | [],k,_,i,o,h=>by simp at h
 |a::l,k,hh,i,o,h=>by
  change (Bool.rec false (allI p l (k+1)) (p k a):Bool)=true at hh
  cases hp:p k a with
  |false=>rw[hp]at hh;cases hh
  |true=>
   rw[hp]at hh
   cases i with
   |zero=>simp at h;subst h;exact hp
   |succ i=>
    have:=allI_iff' hh i o (by simpa using h)
    rwa [show k+1+i=k+(i+1) by omega]at this
omit [Io] in
theorem allI_iff{p:Nat->Oper->Bool}{l:List Oper}(h:allI p l 0=true)(i:Nat)(o:Oper)(ho:l[i]? =some o):p i o=true:=by
 have:=allI_iff' h i o ho
 simpa using this
def downB(l:List Oper):Bool:=allI (fun i o=>allB (fun e=>Bool.rec true (Nat.blt e.on i) (Region.binds .any e)) o.after.toList) l 0
omit [Io] in
theorem down_of{ops:Array Oper}(h:downB ops.toList=true):Down ops:=by
 intro i o e ho he hb
 have:=allI_iff h i o (by simpa using ho)
 rw[allB_eq,List.all_eq_true]at this
 have:=this e (by simpa using he)
 rw[hb]at this
 exact blt_iff.1 this
def eqDst(o:Oper)(d:Nat):Bool:=match o.dst with
 |some e=>Nat.beq e d
 |none=>false
omit [Io] in
theorem eqDst_iff{o:Oper}{d:Nat}(h:o.dst=some d):eqDst o d=true:=by unfold eqDst;rw[h];simp
def dstB(l:List Oper):Bool:=allI (fun i o=>match o.dst with
 |some d=>allI (fun j o'=>Bool.rec true (Nat.beq i j) (eqDst o' d)) l 0
 |none=>true) l 0
section
variable (P:Program)(call:CallF)(nt:Nat)(L:List Oper)
def clB(k:Cl)(i:Nat):Bool:=match getN L i with
 |some o=>eqCl (cOp P call o.op).1 k
 |none=>false
def rdB(ran:List Nat)(i:Nat):Bool:=match getN L i with
 |some o=>allB (fun u=>Nat.blt u nt&&Bool.rec (allI (fun j o'=>Bool.rec true (!memB j ran&&(anc L j i&& !anc L i j)) (eqDst o' u)) L 0) true (allI (fun j o'=>Bool.rec true (memB j ran&&anc L i j) (eqDst o' u)) L 0)) (readsOf L o)
 |none=>false
def runI(i:Nat)(k:RgF):RgF:=match getN L i with
 |some o=>match o.dst with
  |some d=>ifb (Nat.blt d nt) (st (sT d) (gOp P call nt L o) k) (fun _ _=>.bad)
  |none=>sn (gOp P call nt L o) k
 |none=>fun _ _=>.bad
def chkI(i:Nat)(k:RgF):RgF:=match getN L i with
 |some o=>match o.dst with
  |some d=>ifb (Nat.blt d nt) (ck (oT d) (gOp P call nt L o) k) (fun _ _=>.bad)
  |none=>sn (gOp P call nt L o) k
 |none=>fun _ _=>.bad
def runM(i:Nat)(k:RgF):RgF:=match getN L i with
 |some o=>match o.dst with
  |some d=>ifb (Nat.blt d nt) (st (sT d) (mn (gOp P call nt L o)) k) (fun _ _=>.bad)
  |none=>sn (mn (gOp P call nt L o)) k
 |none=>fun _ _=>.bad
def preF:List Nat->List Nat->(List Nat->RgF)->RgF
 | [],ran,k=>k ran
 |i::l,ran,k=>ifb (rdB nt L ran i) (ifb (memB i ran) (ifb (clB P call L .p1 i) (chkI P call nt L i (preF l ran k)) (fun _ _=>.bad))
  (ifb (clB P call L .p0 i||clB P call L .p1 i) (runI P call nt L i (preF l (i::ran) k)) (fun _ _=>.bad))) (fun _ _=>.bad)
def alsF:List Nat->List Nat->(List Nat->RgF)->RgF
 | [],ran,k=>k ran
 |i::l,ran,k=>ifb (rdB nt L ran i&&(!memB i ran&&(clB P call L .p0 i||clB P call L .al i))) (runI P call nt L i (alsF l (i::ran) k)) (fun _ _=>.bad)
def planF:Plan->List Nat->RgF
 | .last pre als,ran=>preF P call nt L pre ran fun ran=>alsF P call nt L als ran fun ran=>ifb (allI (fun i _=>memB i ran) L 0) fi (fun _ _=>.bad)
 | .cons pre als q rest,ran=>preF P call nt L pre ran fun ran=>alsF P call nt L als ran fun ran=>
   ifb (rdB nt L ran q&&(!memB q ran&&clB P call L .ch q)) (runM P call nt L q (planF rest (q::ran))) (fun _ _=>.bad)
def statB:Plan->List Nat->Bool
 | .last pre _,past=>allI (fun i _=>Bool.rec true (anyB (fun j=>anc L j i) past||memB i pre) (clB P call L .p1 i)) L 0
 | .cons pre als q rest,past=>allI (fun i _=>Bool.rec true (anyB (fun j=>anc L j i) past||(anyB (fun j=>anc L i j) (q::rest.chs)||memB i pre)) (clB P call L .p1 i)) L 0&&
   (allB (fun i=>Bool.rec true (anc L q i) (clB P call L .al i)) als&&(allB (fun q'=>anc L q' q) rest.chs&&statB rest (q::past)))
end
end Go.Ab

noncomputable section
namespace Go.Ab
variable [Io]
section
variable {P:Program}{call:CallF}
def LvF(f:OpF):Prop:= ∀ t h v h',f t h=.ok v h'->h'=h
omit [Io] in
theorem cond_ok{b:Bool}{x:Ro}{v:AV}{h:Hp}(e:(bif b then x else .bad)=.ok v h):x=.ok v h:=by cases b;cases e;exact e
omit [Io] in
theorem lv_bad:LvF kBad:=by intro t h v h' e;cases e
omit [Io] in
theorem lv_ifb{c:Bool}{f:OpF}(i:LvF f):LvF (ifb c f kBad):=by cases c;exact lv_bad;exact i
omit [Io] in
theorem lv_load{n:Nat}{b:Bool}{x:Opd}:LvF (kLoad n b x):=by
 intro t h v h' e
 unfold kLoad at e
 split at e
 ·split at e
  ·cases e;rfl
  ·cases e
 ·cases e
omit [Io] in
theorem lv_sliceS{x:Opd}{lo hi:Option Opd}:LvF (kSliceS x lo hi):=by
 intro t h v h' e
 unfold kSliceS at e
 split at e
 ·split at e
  ·cases e;rfl
  ·cases e
 ·cases e
omit [Io] in
theorem lv_slice{n:Nat}{x:Opd}{lo hi:Option Opd}:LvF (kSlice n x lo hi):=by
 intro t h v h' e
 unfold kSlice at e
 split at e
 ·split at e
  ·cases e;rfl
  ·cases e
 ·split at e
  ·have e:=cond_ok e
   cases e;rfl
  ·cases e
 ·split at e
  ·cases e;rfl
  ·cases e
 ·cases e
omit [Io] in
theorem lv_sliceN{n:Nat}{x:Opd}{lo hi:Option Opd}:LvF (kSliceN n x lo hi):=by
 intro t h v h' e
 unfold kSliceN at e
 split at e
 ·rename_i a hx
  cases hE:isE a with
  |false=>rw[hE]at e;exact lv_slice _ _ _ _ e
  |true=>
   rw[hE]at e
   simp only[cond_true]at e
   split at e
   ·cases e;rfl
   ·cases e
 ·cases e
omit [Io] in
theorem lv_sliceA{n m:Nat}{x:Opd}{lo hi:Option Opd}:LvF (kSliceA n m x lo hi):=by
 intro t h v h' e
 unfold kSliceA at e
 split at e
 ·split at e
  ·split at e
   ·have e:=cond_ok e
    cases e;rfl
   ·cases e
  ·cases e
 ·cases e
omit [Io] in
theorem lv_emp{x y z:Opd}:LvF (kEmp x y z):=by
 intro t h v h' e
 unfold kEmp at e
 split at e
 ·split at e
  ·have e:=cond_ok e
   split at e
   ·cases e;rfl
   ·cases e;rfl
   ·cases e;rfl
   ·cases e
  ·cases e
 ·cases e
omit [Io] in
theorem cOp_lv{o:Op}(hc:(cOp P call o).1=.p1):LvF (cOp P call o).2:=by
 cases o<;>simp only[cOp]at hc ⊢
 case load T x=>
  unfold cLoad
  split
  ·split
   ·exact lv_load
   ·exact lv_bad
  ·exact lv_bad
 case slice T x lo hi mx=>
  cases mx with
  |some m=>
   simp only
   unfold cSlice3
   split
   ·split
    ·split
     ·exact lv_emp
     ·exact lv_bad
    ·exact lv_bad
   ·exact lv_bad
  |none=>
   simp only
   unfold cSlice
   split
   ·exact lv_sliceS
   ·split
    ·exact lv_sliceN
    ·exact lv_bad
   ·split
    ·exact lv_ifb lv_sliceA
    ·exact lv_bad
   ·exact lv_bad
 case binOp op T x y yT=>cases h:cBin P op T<;>rw[h]at hc<;>cases hc
 case unOp op T x=>cases h:cUn op<;>rw[h]at hc<;>cases hc
 case convert S D x=>
  cases h:P.underlying D with
  |none=>rw[h]at hc;cases hc
  |some d=>cases d<;>rw[h]at hc<;>cases hc
 case makeFunc f first caps=>
  cases f<;>try (cases hc;done)
  simp only at hc
  cases h:first.toList<;>rw[h]at hc<;>cases hc
 case makeMap T r=>cases r<;>cases hc
 case call c=>cases h:cBuiltin P c<;>rw[h]at hc<;>cases hc
 all_goals (cases hc)
omit [Io] in
theorem gOp_lv{nt:Nat}{all:List Oper}{o:Oper}(hcl:(cOp P call o.op).1=.p1):LvF (gOp P call nt all o):=by
 have hf:LvF (cOp P call o.op).2:=cOp_lv hcl
 unfold gOp
 cases o.guard with
 |none=>exact hf
 |some p=>
  obtain⟨j,want⟩:=p
  simp only
  split
  ·split
   ·refine lv_ifb ?_
    intro t h v h' e
    unfold gF at e
    split at e
    ·rename_i b _
     cases hw:ifb want b (!b)with
     |false=>rw[hw]at e;cases e;rfl
     |true=>rw[hw]at e;exact hf t h v h' e
    ·cases e;rfl
    ·cases e
   ·exact lv_bad
  ·exact lv_bad
end
omit [Io] in
theorem rec_true{b x:Bool}(h:(Bool.rec true x b:Bool)=true)(hb:b=true):x=true:=by subst hb;exact h
namespace Cx
variable {c:Cx}
omit [Io] in
theorem clB_iff{k:Cl}{i:Nat}:clB c.P c.call c.ops.toList k i=true↔c.IsCl i k:=by
 unfold clB IsCl
 rw[getN_eq]
 constructor
 ·intro h
  split at h
  ·rename_i o ho
   exact⟨o,by simpa using ho,eqCl_iff h⟩
  ·cases h
 ·rintro⟨o,ho,hk⟩
  have:c.ops.toList[i]? =some o:=by simpa using ho
  rw[this,<-hk]
  simp only
  cases(cOp c.P c.call o.op).1<;>rfl
omit [Io] in
theorem rdB_spec{ran:List Nat}{i:Nat}(h:rdB c.nt c.ops.toList ran i=true): ∀ u∈c.Rds i,u<c.nt/\((∀ j,c.Dst j u->j∈ran/\c.An i j)∨ ∀ j,c.Dst j u->j∉ran/\c.An j i/\ ¬ c.An i j):=by
 unfold rdB at h
 rw[getN_eq]at h
 unfold Rds
 intro u hu
 cases ho:c.ops[i]? with
 |none=>rw[ho]at hu;cases hu
 |some o=>
  rw[ho]at hu
  have:c.ops.toList[i]? =some o:=by simpa using ho
  rw[this]at h
  simp only[allB_eq,List.all_eq_true]at h
  have:=h u hu
  rw[Bool.and_eq_true]at this
  refine⟨blt_iff.1 this.1,?_⟩
  cases h1:allI (fun j o'=>Bool.rec true (memB j ran&&anc c.ops.toList i j) (eqDst o' u)) c.ops.toList 0 with
  |true=>
   refine .inl ?_
   rintro j ⟨oj,hoj,hd⟩
   have h2:=rec_true (allI_iff h1 j oj (by simpa using hoj)) (eqDst_iff hd)
   rw[Bool.and_eq_true,memB_iff]at h2
   exact h2
  |false=>
   rw[h1]at this
   refine .inr ?_
   rintro j ⟨oj,hoj,hd⟩
   have h2:=rec_true (allI_iff this.2 j oj (by simpa using hoj)) (eqDst_iff hd)
   simp only[Bool.and_eq_true,Bool.not_eq_true']at h2
   refine⟨fun k=>?_,h2.2.1,fun k=>?_⟩
   ·rw[memB_iff.2 k]at h2;cases h2.1
   ·unfold An at k;rw[k]at h2;cases h2.2.2
def Cov(c:Cx)(ran:List Nat)(u:Nat):Prop:= ∀ j,c.Dst j u->j∈ran
def FrO(c:Cx)(ran:List Nat)(t:Tm):Prop:= ∀ u,u<512->(∀ j,c.Dst j u->j∉ran)->t.at u=c.t0.at u
def Fr(c:Cx)(ran:List Nat)(t:Tm):Prop:= ∀ u,u<512->c.Cov ran u->c.te.at u=t.at u
omit [Io] in
theorem runI_inv{i:Nat}{k:RgF}{t:Tm}{h:Hp}{te:Tm}{hE:Hp}(e:runI c.P c.call c.nt c.ops.toList i k t h=.ok te hE):
 ∃ o v h1 t1,c.ops[i]? =some o/\gOp c.P c.call c.nt c.ops.toList o t h=.ok v h1/\k t1 h1=.ok te hE/\((∃ d,o.dst=some d/\d<c.nt/\t1=sT d v t)∨(o.dst=none/\t1=t)):=by
 unfold runI at e
 rw[getN_eq]at e
 cases ho:c.ops.toList[i]? with
 |none=>rw[ho]at e;cases e
 |some o=>
  rw[ho]at e
  simp only at e
  have ho':c.ops[i]? =some o:=by simpa using ho
  cases hd:o.dst with
  |none=>
   rw[hd]at e
   change sn (gOp c.P c.call c.nt c.ops.toList o) k t h=_ at e
   unfold sn at e
   cases hg:gOp c.P c.call c.nt c.ops.toList o t h with
   |bad=>rw[hg]at e;cases e
   |ok v h1=>rw[hg]at e;exact⟨o,v,h1,t,ho',hg,e,.inr ⟨hd,rfl⟩⟩
  |some d=>
   rw[hd]at e
   simp only at e
   cases hb:Nat.blt d c.nt with
   |false=>rw[hb]at e;cases e
   |true=>
    rw[hb]at e
    change st (sT d) (gOp c.P c.call c.nt c.ops.toList o) k t h=_ at e
    unfold st at e
    cases hg:gOp c.P c.call c.nt c.ops.toList o t h with
    |bad=>rw[hg]at e;cases e
    |ok v h1=>rw[hg]at e;exact⟨o,v,h1,_,ho',hg,e,.inl ⟨d,hd,blt_iff.1 hb,rfl⟩⟩
omit [Io] in
theorem mn_ok{f:OpF}{t:Tm}{h h':Hp}{v:AV}(e:mn f t h=.ok v h'):f t h=.ok v h'/\h.next<=h'.next:=by
 unfold mn at e
 cases hf:f t h with
 |bad=>rw[hf]at e;cases e
 |ok v1 h1=>
  rw[hf]at e
  change (Bool.rec Ro.bad (Ro.ok v1 h1) (Nat.ble h.next h1.next):Ro)=_ at e
  cases hb:Nat.ble h.next h1.next with
  |false=>rw[hb]at e;cases e
  |true=>rw[hb]at e;cases e;exact⟨rfl,Nat.ble_eq.mp hb⟩
omit [Io] in
theorem runM_inv{i:Nat}{k:RgF}{t:Tm}{h:Hp}{te:Tm}{hE:Hp}(e:runM c.P c.call c.nt c.ops.toList i k t h=.ok te hE):
 ∃ o v h1 t1,c.ops[i]? =some o/\gOp c.P c.call c.nt c.ops.toList o t h=.ok v h1/\h.next<=h1.next/\k t1 h1=.ok te hE/\((∃ d,o.dst=some d/\d<c.nt/\t1=sT d v t)∨(o.dst=none/\t1=t)):=by
 unfold runM at e
 rw[getN_eq]at e
 cases ho:c.ops.toList[i]? with
 |none=>rw[ho]at e;cases e
 |some o=>
  rw[ho]at e
  simp only at e
  have ho':c.ops[i]? =some o:=by simpa using ho
  cases hd:o.dst with
  |none=>
   rw[hd]at e
   change sn (mn (gOp c.P c.call c.nt c.ops.toList o)) k t h=_ at e
   unfold sn at e
   cases hg:mn (gOp c.P c.call c.nt c.ops.toList o) t h with
   |bad=>rw[hg]at e;cases e
   |ok v h1=>rw[hg]at e;exact⟨o,v,h1,t,ho',(mn_ok hg).1,(mn_ok hg).2,e,.inr ⟨hd,rfl⟩⟩
  |some d=>
   rw[hd]at e
   simp only at e
   cases hb:Nat.blt d c.nt with
   |false=>rw[hb]at e;cases e
   |true=>
    rw[hb]at e
    change st (sT d) (mn (gOp c.P c.call c.nt c.ops.toList o)) k t h=_ at e
    unfold st at e
    cases hg:mn (gOp c.P c.call c.nt c.ops.toList o) t h with
    |bad=>rw[hg]at e;cases e
    |ok v h1=>rw[hg]at e;exact⟨o,v,h1,_,ho',(mn_ok hg).1,(mn_ok hg).2,e,.inl ⟨d,hd,blt_iff.1 hb,rfl⟩⟩
omit [Io] in
theorem chkI_inv{i:Nat}{k:RgF}{t:Tm}{h:Hp}{te:Tm}{hE:Hp}(hc:c.IsCl i .p1)(e:chkI c.P c.call c.nt c.ops.toList i k t h=.ok te hE):
 ∃ o v,c.ops[i]? =some o/\gOp c.P c.call c.nt c.ops.toList o t h=.ok v h/\k t h=.ok te hE/\ ∀ d,o.dst=some d->d<c.nt/\t.at d=some v:=by
 unfold chkI at e
 rw[getN_eq]at e
 cases ho:c.ops.toList[i]? with
 |none=>rw[ho]at e;cases e
 |some o=>
  rw[ho]at e
  simp only at e
  have ho':c.ops[i]? =some o:=by simpa using ho
  have hlv: ∀ v h1,gOp c.P c.call c.nt c.ops.toList o t h=.ok v h1->h1=h:=by
   intro v h1 hg
   obtain⟨o',h1',h2'⟩:=hc
   rw[ho']at h1'
   cases h1'
   exact gOp_lv h2' _ _ _ _ hg
  cases hd:o.dst with
  |none=>
   rw[hd]at e
   change sn (gOp c.P c.call c.nt c.ops.toList o) k t h=_ at e
   unfold sn at e
   cases hg:gOp c.P c.call c.nt c.ops.toList o t h with
   |bad=>rw[hg]at e;cases e
   |ok v h1=>
    rw[hg]at e
    obtain rfl:=hlv v h1 hg
    exact⟨o,v,ho',hg,e,fun d h=>by rw[hd]at h;cases h⟩
  |some d=>
   rw[hd]at e
   simp only at e
   cases hb:Nat.blt d c.nt with
   |false=>rw[hb]at e;cases e
   |true=>
    rw[hb]at e
    change ck (oT d) (gOp c.P c.call c.nt c.ops.toList o) k t h=_ at e
    unfold ck at e
    cases hg:gOp c.P c.call c.nt c.ops.toList o t h with
    |bad=>rw[hg]at e;cases e
    |ok v h1=>
     rw[hg]at e
     obtain rfl:=hlv v h1 hg
     change (Option.rec Rt.bad (fun u=>Bool.rec Rt.bad (k t h1) (eqA u v)) (t.at d):Rt)=_ at e
     cases ht:t.at d with
     |none=>rw[ht]at e;cases e
     |some u=>
      rw[ht]at e
      change (Bool.rec Rt.bad (k t h1) (eqA u v):Rt)=_ at e
      cases hq:eqA u v with
      |false=>rw[hq]at e;cases e
      |true=>
       rw[hq]at e
       obtain rfl:=eqA_iff _ _ hq
       exact⟨o,u,ho',hg,e,fun d' h=>by rw[hd]at h;cases h;exact⟨blt_iff.1 hb,ht⟩⟩
omit [Io] in
theorem fr_step{ran:List Nat}{i:Nat}{o:Oper}{t t1:Tm}{v:AV}(hnt:c.nt<=512)(ho:c.ops[i]? =some o)(hi:i∉ran)
 (ht:(∃ d,o.dst=some d/\d<c.nt/\t1=sT d v t)∨(o.dst=none/\t1=t))(F:c.Fr (i::ran) t1):c.Fr ran t:=by
 intro u hu hc
 rw[F u hu (fun j hj=>List.mem_cons_of_mem _ (hc j hj))]
 rcases ht with⟨d,hd,hdn,rfl⟩|⟨_,rfl⟩
 ·show(Tm.put t d (some v)).at u=t.at u
  rw[Tm.at_put _ _ _ _ (Nat.lt_of_lt_of_le hdn hnt) hu,if_neg]
  intro e
  subst e
  exact hi (hc i ⟨o,ho,hd⟩)
 ·rfl
omit [Io] in
theorem not_memB{i:Nat}{l:List Nat}(h:memB i l=false):i∉l:=fun k=>by rw[memB_iff.2 k]at h;cases h
omit [Io] in
theorem preF_fr(hnt:c.nt<=512){k:List Nat->RgF}(hk: ∀ ran t h,k ran t h=.ok c.te c.hE->c.Fr ran t): ∀ (pre ran:List Nat) (t:Tm) (h:Hp),
 preF c.P c.call c.nt c.ops.toList pre ran k t h=.ok c.te c.hE->c.Fr ran t
 | [],ran,t,h,e=>hk ran t h e
 |i::l,ran,t,h,e=>by
  unfold preF at e
  cases h1:rdB c.nt c.ops.toList ran i with
  |false=>rw[h1]at e;cases e
  |true=>
  rw[h1]at e
  simp only[ifb]at e
  cases h2:memB i ran with
  |true=>
   rw[h2]at e
   cases h3:clB c.P c.call c.ops.toList .p1 i with
   |false=>rw[h3]at e;cases e
   |true=>
    rw[h3]at e
    obtain⟨o,v,_,_,e,_⟩:=chkI_inv (clB_iff.1 h3) e
    exact preF_fr hnt hk l ran t h e
  |false=>
   rw[h2]at e
   cases h3:(clB c.P c.call c.ops.toList .p0 i||clB c.P c.call c.ops.toList .p1 i)with
   |false=>rw[h3]at e;cases e
   |true=>
    rw[h3]at e
    obtain⟨o,v,h1',t1,ho,_,e,ht⟩:=runI_inv e
    exact fr_step hnt ho (not_memB h2) ht (preF_fr hnt hk l (i::ran) t1 h1' e)
omit [Io] in
theorem alsF_fr(hnt:c.nt<=512){k:List Nat->RgF}(hk: ∀ ran t h,k ran t h=.ok c.te c.hE->c.Fr ran t): ∀ (als ran:List Nat) (t:Tm) (h:Hp),
 alsF c.P c.call c.nt c.ops.toList als ran k t h=.ok c.te c.hE->c.Fr ran t
 | [],ran,t,h,e=>hk ran t h e
 |i::l,ran,t,h,e=>by
  unfold alsF at e
  cases h1:(rdB c.nt c.ops.toList ran i&&(!memB i ran&&(clB c.P c.call c.ops.toList .p0 i||clB c.P c.call c.ops.toList .al i)))with
  |false=>rw[h1]at e;cases e
  |true=>
   rw[h1]at e
   simp only[ifb]at e
   simp only[Bool.and_eq_true,Bool.not_eq_true']at h1
   obtain⟨o,v,h1',t1,ho,_,e,ht⟩:=runI_inv e
   exact fr_step hnt ho (not_memB h1.2.1) ht (alsF_fr hnt hk l (i::ran) t1 h1' e)
omit [Io] in
theorem planF_fr(hnt:c.nt<=512): ∀ (pl:Plan) (ran:List Nat) (t:Tm) (h:Hp),planF c.P c.call c.nt c.ops.toList pl ran t h=.ok c.te c.hE->c.Fr ran t
 | .last pre als,ran,t,h,e=>by
  unfold planF at e
  refine preF_fr hnt (fun ran t h e=>?_) pre ran t h e
  refine alsF_fr hnt (fun ran t h e=>?_) als ran t h e
  cases hb:allI (fun i _=>memB i ran) c.ops.toList 0 with
  |false=>rw[hb]at e;cases e
  |true=>
   rw[hb]at e
   obtain⟨rfl,_⟩:=Rt.ok.inj e
   exact fun u _ _=>rfl
 | .cons pre als q rest,ran,t,h,e=>by
  unfold planF at e
  refine preF_fr hnt (fun ran t h e=>?_) pre ran t h e
  refine alsF_fr hnt (fun ran t h e=>?_) als ran t h e
  cases h1:(rdB c.nt c.ops.toList ran q&&(!memB q ran&&clB c.P c.call c.ops.toList .ch q))with
  |false=>rw[h1]at e;cases e
  |true=>
   rw[h1]at e
   simp only[ifb]at e
   simp only[Bool.and_eq_true,Bool.not_eq_true']at h1
   obtain⟨o,v,h1',t1,ho,_,_,e,ht⟩:=runM_inv e
   exact fr_step hnt ho (not_memB h1.2.1) ht (planF_fr hnt rest (q::ran) t1 h1' e)
omit [Io] in
theorem fro_step{ran:List Nat}{i:Nat}{o:Oper}{t t1:Tm}{v:AV}(hnt:c.nt<=512)(ho:c.ops[i]? =some o)
 (ht:(∃ d,o.dst=some d/\d<c.nt/\t1=sT d v t)∨(o.dst=none/\t1=t))(F:c.FrO ran t):c.FrO (i::ran) t1:=by
 intro u hu hc
 rw[<-F u hu (fun j hj k=>hc j hj (List.mem_cons_of_mem _ k))]
 rcases ht with⟨d,hd,hdn,rfl⟩|⟨_,rfl⟩
 ·show(Tm.put t d (some v)).at u=t.at u
  rw[Tm.at_put _ _ _ _ (Nat.lt_of_lt_of_le hdn hnt) hu,if_neg]
  intro e
  subst e
  exact hc i ⟨o,ho,hd⟩ List.mem_cons_self
 ·rfl
omit [Io] in
theorem rf_at{i u:Nat}(hlt: ∀ u∈c.Rds i,u<512)(hu:u∈c.Rds i):((∃ j,c.Dst j u/\c.An i j)/\(c.rf i).at u=c.te.at u)∨((¬ ∃ j,c.Dst j u/\c.An i j)/\(c.rf i).at u=c.t0.at u):=by
 have key: ∀ (l:List Nat),(∀ u∈l,u<512)->u∈l->((∃ j,c.Dst j u/\c.An i j)/\(c.rfL i l).at u=c.te.at u)∨((¬ ∃ j,c.Dst j u/\c.An i j)/\(c.rfL i l).at u=c.t0.at u):=by
  intro l
  induction l with
  |nil=>intro _ h;cases h
  |cons x l ih=>
   intro hl hm
   rw[rfL,Tm.at_put _ _ _ _ (hl x List.mem_cons_self) (hl u hm)]
   by_cases hx:u=x
   ·subst hx
    rw[if_pos rfl]
    by_cases hw: ∃ j,c.Dst j u/\c.An i j
    ·rw[if_pos hw];exact .inl ⟨hw,rfl⟩
    ·rw[if_neg hw];exact .inr ⟨hw,rfl⟩
   ·rw[if_neg hx]
    exact ih (fun y hy=>hl y (List.mem_cons_of_mem _ hy)) ((List.mem_cons.1 hm).resolve_left hx)
 exact key _ hlt hu
omit [Io] in
theorem at_te{ran:List Nat}{i:Nat}{o:Oper}{t:Tm}{h h1:Hp}{v:AV}(hnt:c.nt<=512)(hsame: ∀ u,u<512->(∀ j,¬ c.Dst j u)->c.te.at u=c.t0.at u)(F:c.Fr ran t)(hO:c.FrO ran t)(ho:c.ops[i]? =some o)(hr:rdB c.nt c.ops.toList ran i=true)
 (e:gOp c.P c.call c.nt c.ops.toList o t h=.ok v h1):c.FE i (c.rf i) h=.ok v h1:=by
 rw[FE_eq ho,<-e]
 refine gOp_dep fun u hu=>?_
 rw[<-Rds_eq ho]at hu
 have hlt: ∀ u∈c.Rds i,u<512:=fun u hu=>Nat.lt_of_lt_of_le (rdB_spec hr u hu).1 hnt
 obtain⟨_,hor⟩:=rdB_spec hr u hu
 rcases rf_at hlt hu with⟨⟨j,hj,hA⟩,er⟩|⟨hno,er⟩
 ·rw[er]
  rcases hor with h1|h1
  ·exact F u (hlt u hu) (fun j hj=>(h1 j hj).1)
  ·exact absurd hA (h1 j hj).2.2
 ·rw[er]
  rcases hor with h1|h1
  ·have hn: ∀ j,¬ c.Dst j u:=fun j hj=>hno ⟨j,hj,(h1 j hj).2⟩
   rw[<-hsame u (hlt u hu) hn]
   exact F u (hlt u hu) (fun j hj=>absurd hj (hn j))
  ·exact(hO u (hlt u hu) (fun j hj=>(h1 j hj).1)).symm
omit [Io] in
theorem slot_step{ran:List Nat}{i:Nat}{o:Oper}{t t1:Tm}{v:AV}(hnt:c.nt<=512)(hds: ∀ i j d,c.Dst i d->c.Dst j d->i=j)(ho:c.ops[i]? =some o)
 (ht:(∃ d,o.dst=some d/\d<c.nt/\t1=sT d v t)∨(o.dst=none/\t1=t))(F:c.Fr (i::ran) t1):c.Slot i v:=by
 intro d hd
 obtain⟨o',ho',hd'⟩:=id hd
 rw[ho]at ho'
 cases ho'
 rcases ht with⟨d2,hd2,hdn,rfl⟩|⟨hn,_⟩
 ·rw[hd']at hd2
  cases hd2
  refine⟨hdn,?_⟩
  rw[F d (Nat.lt_of_lt_of_le hdn hnt) (fun j hj=>by rw[hds j i d hj hd];exact List.mem_cons_self)]
  show(Tm.put t d (some v)).at d=_
  rw[Tm.at_put _ _ _ _ (Nat.lt_of_lt_of_le hdn hnt) (Nat.lt_of_lt_of_le hdn hnt),if_pos rfl]
 ·rw[hd']at hn;cases hn
end Cx
end Go.Ab

noncomputable section
namespace Go.Ab
variable [Io]
namespace Cx
def wi(c:Cx)(nx bd:Nat->Nat):Cx:={c with nx:=nx,bd:=bd}
def GI(c:Cx)(i:Nat):Prop:=
 (c.IsCl i .p0-> ∃ v,(∀ h,c.FE i (c.rf i) h=.ok v h)/\c.Slot i v/\c.RdOk i (c.bd i))/\
 (c.IsCl i .al-> ∃ v,c.Slot i v/\c.RdOk i (c.nx i)/\((c.FE i (c.rf i) (nilH (c.nx i))=.ok v (nilH (c.nx i))/\c.bd i=c.nx i)∨
  ∃ cs,c.FE i (c.rf i) (nilH (c.nx i))=.ok v (newO (nilH (c.nx i)) cs)/\c.bd i=c.nx i+1))
def upd(f:Nat->Nat)(i n:Nat):Nat->Nat:=fun j=>if j=i then n else f j
omit [Io] in
theorem upd_self{f:Nat->Nat}{i n:Nat}:upd f i n i=n:=if_pos rfl
omit [Io] in
theorem upd_ne{f:Nat->Nat}{i n j:Nat}(h:j≠i):upd f i n j=f j:=if_neg h
variable {c:Cx}
omit [Io] in
theorem rfL_wi{nx bd:Nat->Nat}{i:Nat}: ∀ (l:List Nat),(c.wi nx bd).rfL i l=c.rfL i l
 | []=>rfl
 |u::l=>by
  rw[rfL,rfL,rfL_wi l]
  rfl
omit [Io] in
theorem rf_wi{nx bd:Nat->Nat}{i:Nat}:(c.wi nx bd).rf i=c.rf i:=rfL_wi _
omit [Io] in
theorem rd_ok{ran:List Nat}{i N:Nat}(hr:rdB c.nt c.ops.toList ran i=true)(hb: ∀ j∈ran,c.bd j<=N):c.RdOk i N:=by
 intro u hu
 obtain⟨h1,h2⟩:=rdB_spec hr u hu
 exact⟨h1,h2.imp (fun h j hj=>⟨(h j hj).2,hb j (h j hj).1⟩) (fun h j hj=>(h j hj).2.1)⟩
omit [Io] in
theorem preF_ok(hnt:c.nt<=512)(hsame: ∀ u,u<512->(∀ j,¬ c.Dst j u)->c.te.at u=c.t0.at u)(hds: ∀ i j d,c.Dst i d->c.Dst j d->i=j){k:List Nat->RgF}(hk: ∀ ran t h,k ran t h=.ok c.te c.hE->c.Fr ran t)
 {Φ:(Nat->Nat)->(Nat->Nat)->List Nat->Prop}{h:Hp}
 (ih: ∀ (ran:List Nat) (t:Tm) (nx0 bd0:Nat->Nat),k ran t h=.ok c.te c.hE->c.FrO ran t->(∀ j∈ran,bd0 j<=h.next)-> ∃ nx bd,(∀ j∈ran,nx j=nx0 j/\bd j=bd0 j)/\Φ nx bd ran):
 ∀ (pre ran:List Nat) (t:Tm) (nx0 bd0:Nat->Nat),preF c.P c.call c.nt c.ops.toList pre ran k t h=.ok c.te c.hE->c.FrO ran t->(∀ j∈ran,bd0 j<=h.next)->
  ∃ nx bd,(∀ j∈ran,nx j=nx0 j/\bd j=bd0 j)/\(c.wi nx bd).P1s pre h/\ ∃ ran1,Φ nx bd ran1/\ ∀ i∈ran1,i∈ran∨((c.wi nx bd).GI i/\(c.IsCl i .p0∨c.IsCl i .p1))
 | [],ran,t,nx0,bd0,e,hO,hb=>by
  obtain⟨nx,bd,h1,h2⟩:=ih ran t nx0 bd0 e hO hb
  exact⟨nx,bd,h1,(fun i hi=>by cases hi),ran,h2,fun i hi=>.inl hi⟩
 |i::l,ran,t,nx0,bd0,e,hO,hb=>by
  have F:=preF_fr hnt hk (i::l) ran t h e
  unfold preF at e
  cases h1:rdB c.nt c.ops.toList ran i with
  |false=>rw[h1]at e;cases e
  |true=>
  rw[h1]at e
  simp only[ifb]at e
  cases h2:memB i ran with
  |true=>
   rw[h2]at e
   cases h3:clB c.P c.call c.ops.toList .p1 i with
   |false=>rw[h3]at e;cases e
   |true=>
    rw[h3]at e
    obtain⟨o,v,ho,hg,e,hs⟩:=chkI_inv (clB_iff.1 h3) e
    obtain⟨nx,bd,a1,a2,ran1,a3,a4⟩:=preF_ok hnt hsame hds hk ih l ran t nx0 bd0 e hO hb
    refine⟨nx,bd,a1,fun j hj hc=>?_,ran1,a3,a4⟩
    rcases List.mem_cons.1 hj with rfl|hj
    ·refine⟨v,at_te hnt hsame F hO ho h1 hg,?_,rd_ok (c:=c.wi nx bd) h1 (fun j hj=>by show bd j<=_;rw[(a1 j hj).2];exact hb j hj)⟩
     intro d hd
     obtain⟨o',ho',hd'⟩:=id hd
     have ho'':c.ops[j]? =some o':=ho'
     rw[ho]at ho''
     cases ho''
     obtain⟨s1,s2⟩:=hs d hd'
     refine⟨s1,?_⟩
     show c.te.at d=_
     rw[F d (Nat.lt_of_lt_of_le s1 hnt) (fun x hx=>by rw[hds x j d hx hd];exact memB_iff.1 h2)]
     exact s2
    ·exact a2 j hj hc
  |false=>
   rw[h2]at e
   have hni:=not_memB h2
   cases h3:(clB c.P c.call c.ops.toList .p0 i||clB c.P c.call c.ops.toList .p1 i)with
   |false=>rw[h3]at e;cases e
   |true=>
    rw[h3]at e
    have hcl:c.IsCl i .p0∨c.IsCl i .p1:=by
     rw[Bool.or_eq_true]at h3
     exact h3.imp clB_iff.1 clB_iff.1
    obtain⟨o,v,h1',t1,ho,hg,e2,ht⟩:=runI_inv e
    clear e
    have hlv:h1'=h:=by
     rcases hcl with⟨o',ho',hk'⟩|⟨o',ho',hk'⟩
     ·rw[ho]at ho';cases ho'
      exact((gOp_ind hk').ok hg).1
     ·rw[ho]at ho';cases ho'
      exact gOp_lv hk' _ _ _ _ hg
    subst hlv
    have hne: ∀ j∈ran,j≠i:=fun j hj e=>hni (e▸hj)
    obtain⟨nx,bd,a1,a2,ran1,a3,a4⟩:=preF_ok hnt hsame hds hk ih l (i::ran) t1 (upd nx0 i h1'.next) (upd bd0 i h1'.next) e2 (fro_step hnt ho ht hO) (fun j hj=>by
     rcases List.mem_cons.1 hj with rfl|hj
     ·rw[upd_self];exact Nat.le_refl _
     ·rw[upd_ne (hne j hj)];exact hb j hj)
    have agree: ∀ j∈ran,nx j=nx0 j/\bd j=bd0 j:=fun j hj=>by
     have:=a1 j (List.mem_cons_of_mem _ hj)
     rwa [upd_ne (hne j hj),upd_ne (hne j hj)]at this
    have hbi:bd i=h1'.next:=by
     have:=(a1 i List.mem_cons_self).2
     rwa [upd_self]at this
    have hrd:(c.wi nx bd).RdOk i h1'.next:=rd_ok (c:=c.wi nx bd) h1 (fun j hj=>by show bd j<=_;rw[(agree j hj).2];exact hb j hj)
    have hsl:c.Slot i v:=slot_step hnt hds ho ht (preF_fr hnt hk l (i::ran) t1 h1' e2)
    refine⟨nx,bd,agree,fun j hj hc=>?_,ran1,a3,fun j hj=>?_⟩
    ·rcases List.mem_cons.1 hj with rfl|hj
     ·exact⟨v,at_te hnt hsame F hO ho h1 hg,hsl,hrd⟩
     ·exact a2 j hj hc
    ·rcases a4 j hj with h|h
     ·rcases List.mem_cons.1 h with rfl|h
      ·refine .inr ⟨⟨fun hc=>⟨v,?_,hsl,?_⟩,fun hc=>?_⟩,hcl⟩
       ·obtain⟨o',ho',hk'⟩:=hc
        have ho'':c.ops[j]? =some o':=ho'
        rw[ho]at ho''
        cases ho''
        intro h0
        rw[rf_wi]
        show c.FE j (c.rf j) h0=_
        have:=at_te hnt hsame F hO ho h1 hg
        rw[FE_eq ho]at this ⊢
        exact((gOp_ind hk').ok this).2 h0
       ·show Cx.RdOk _ j (bd j)
        rw[hbi];exact hrd
       ·rcases hcl with h|h<;>cases c.cl_al h hc
      ·exact .inl h
     ·exact .inr h
omit [Io] in
theorem alsF_ok(hnt:c.nt<=512)(hsame: ∀ u,u<512->(∀ j,¬ c.Dst j u)->c.te.at u=c.t0.at u)(hds: ∀ i j d,c.Dst i d->c.Dst j d->i=j){k:List Nat->RgF}(hk: ∀ ran t h,k ran t h=.ok c.te c.hE->c.Fr ran t)
 {Φ:(Nat->Nat)->(Nat->Nat)->List Nat->Hp->Prop}
 (ih: ∀ (ran:List Nat) (t:Tm) (h:Hp) (nx0 bd0:Nat->Nat),k ran t h=.ok c.te c.hE->c.FrO ran t->(∀ j∈ran,bd0 j<=h.next)-> ∃ nx bd,(∀ j∈ran,nx j=nx0 j/\bd j=bd0 j)/\Φ nx bd ran h):
 ∀ (als ran:List Nat) (t:Tm) (h:Hp) (nx0 bd0:Nat->Nat),alsF c.P c.call c.nt c.ops.toList als ran k t h=.ok c.te c.hE->c.FrO ran t->(∀ j∈ran,bd0 j<=h.next)->
  ∃ nx bd,(∀ j∈ran,nx j=nx0 j/\bd j=bd0 j)/\ ∃ h1 ran1,(c.wi nx bd).AlsP als h h1/\Φ nx bd ran1 h1/\ ∀ i∈ran1,i∈ran∨((c.wi nx bd).GI i/\i∈als/\(c.IsCl i .p0∨c.IsCl i .al))
 | [],ran,t,h,nx0,bd0,e,hO,hb=>by
  obtain⟨nx,bd,h1,h2⟩:=ih ran t h nx0 bd0 e hO hb
  exact⟨nx,bd,h1,h,ran,rfl,h2,fun i hi=>.inl hi⟩
 |i::l,ran,t,h,nx0,bd0,e,hO,hb=>by
  have F:=alsF_fr hnt hk (i::l) ran t h e
  unfold alsF at e
  cases hcond:(rdB c.nt c.ops.toList ran i&&(!memB i ran&&(clB c.P c.call c.ops.toList .p0 i||clB c.P c.call c.ops.toList .al i)))with
  |false=>rw[hcond]at e;cases e
  |true=>
   rw[hcond]at e
   simp only[ifb]at e
   simp only[Bool.and_eq_true,Bool.not_eq_true',Bool.or_eq_true]at hcond
   obtain⟨h1,h2,h3⟩:=hcond
   have hni:=not_memB h2
   have hcl:c.IsCl i .p0∨c.IsCl i .al:=h3.imp clB_iff.1 clB_iff.1
   obtain⟨o,v,h',t1,ho,hg,e2,ht⟩:=runI_inv e
   clear e
   have hne: ∀ j∈ran,j≠i:=fun j hj e=>hni (e▸hj)
   have hle:h.next<=h'.next:=by
    rcases hcl with⟨o',ho',hk'⟩|⟨o',ho',hk'⟩
    ·rw[ho]at ho';cases ho'
     rw[((gOp_ind hk').ok hg).1]
     exact Nat.le_refl _
    ·rw[ho]at ho';cases ho'
     rcases gOp_inda hk' _ _ _ _ hg (nilH h.next) rfl with⟨rfl,_⟩|⟨cs,rfl,_⟩
     ·exact Nat.le_refl _
     ·exact Nat.le_succ _
   obtain⟨nx,bd,a1,h1',ran1,a2,a3,a4⟩:=alsF_ok hnt hsame hds hk ih l (i::ran) t1 h' (upd nx0 i h.next) (upd bd0 i h'.next) e2 (fro_step hnt ho ht hO) (fun j hj=>by
    rcases List.mem_cons.1 hj with rfl|hj
    ·rw[upd_self];exact Nat.le_refl _
    ·rw[upd_ne (hne j hj)];exact Nat.le_trans (hb j hj) hle)
   have agree: ∀ j∈ran,nx j=nx0 j/\bd j=bd0 j:=fun j hj=>by
    have:=a1 j (List.mem_cons_of_mem _ hj)
    rwa [upd_ne (hne j hj),upd_ne (hne j hj)]at this
   have hbi:bd i=h'.next:=by
    have:=(a1 i List.mem_cons_self).2
    rwa [upd_self]at this
   have hni':nx i=h.next:=by
    have:=(a1 i List.mem_cons_self).1
    rwa [upd_self]at this
   have hrd:(c.wi nx bd).RdOk i h.next:=rd_ok (c:=c.wi nx bd) h1 (fun j hj=>by show bd j<=_;rw[(agree j hj).2];exact hb j hj)
   have hsl:c.Slot i v:=slot_step hnt hds ho ht (alsF_fr hnt hk l (i::ran) t1 h' e2)
   have hte:=at_te hnt hsame F hO ho h1 hg
   rcases hcl with hcl|hcl
   ·have hh:h'=h:=by
     obtain⟨o',ho',hk'⟩:=hcl
     rw[ho]at ho';cases ho'
     exact((gOp_ind hk').ok hg).1
    subst hh
    refine⟨nx,bd,agree,h1',ran1,.inl ⟨hcl,a2⟩,a3,fun j hj=>?_⟩
    rcases a4 j hj with h|⟨h,h5,h6⟩
    ·rcases List.mem_cons.1 h with rfl|h
     ·refine .inr ⟨⟨fun hc=>⟨v,?_,hsl,?_⟩,fun hc=>?_⟩,List.mem_cons_self,.inl hcl⟩
      ·obtain⟨o',ho',hk'⟩:=hcl
       rw[ho]at ho'
       cases ho'
       intro h0
       rw[rf_wi]
       show c.FE j (c.rf j) h0=_
       rw[FE_eq ho]at hte ⊢
       exact((gOp_ind hk').ok hte).2 h0
      ·show Cx.RdOk _ j (bd j)
       rw[hbi];exact hrd
      ·cases c.cl_al hcl hc
     ·exact .inl h
    ·exact .inr ⟨h,List.mem_cons_of_mem _ h5,h6⟩
   ·have key:(h'=h/\c.FE i (c.rf i) (nilH h.next)=.ok v (nilH h.next))∨ ∃ cs,h'=newO h cs/\c.FE i (c.rf i) (nilH h.next)=.ok v (newO (nilH h.next) cs):=by
     obtain⟨o',ho',hk'⟩:=hcl
     rw[ho]at ho';cases ho'
     rw[FE_eq ho]at hte ⊢
     exact gOp_inda hk' _ _ _ _ hte (nilH h.next) rfl
    refine⟨nx,bd,agree,h1',ran1,.inr ⟨hcl,hni',?_⟩,a3,fun j hj=>?_⟩
    ·rcases key with⟨rfl,_⟩|⟨cs,rfl,hf⟩
     ·exact .inl ⟨hbi.trans hni'.symm,a2⟩
     ·refine .inr ⟨v,cs,?_,?_,a2⟩
      ·show bd i=nx i+1
       rw[hbi,hni'];rfl
      ·rw[rf_wi]
       show c.FE i (c.rf i) (nilH (nx i))=.ok v (newO (nilH (nx i)) cs)
       rw[hni'];exact hf
    ·rcases a4 j hj with h0|⟨h0,h5,h6⟩
     ·rcases List.mem_cons.1 h0 with rfl|h0
      ·refine .inr ⟨⟨fun hc=>?_,fun hc=>⟨v,hsl,?_,?_⟩⟩,List.mem_cons_self,.inr hcl⟩
       ·cases c.cl_al hcl hc
       ·show Cx.RdOk _ j (nx j)
        rw[hni'];exact hrd
       ·rw[rf_wi]
        show(c.FE j (c.rf j) (nilH (nx j))=.ok v (nilH (nx j))/\bd j=nx j)∨ ∃ cs,c.FE j (c.rf j) (nilH (nx j))=.ok v (newO (nilH (nx j)) cs)/\bd j=nx j+1
        rw[hni',hbi]
        rcases key with⟨rfl,hf⟩|⟨cs,rfl,hf⟩
        ·exact .inl ⟨hf,rfl⟩
        ·exact .inr ⟨cs,hf,rfl⟩
      ·exact .inl h0
     ·exact .inr ⟨h0,List.mem_cons_of_mem _ h5,h6⟩
omit [Io] in
theorem planF_ok(hnt:c.nt<=512)(hsame: ∀ u,u<512->(∀ j,¬ c.Dst j u)->c.te.at u=c.t0.at u)(hds: ∀ i j d,c.Dst i d->c.Dst j d->i=j): ∀ (pl:Plan) (ran:List Nat) (t:Tm) (h:Hp) (nx0 bd0:Nat->Nat),
 planF c.P c.call c.nt c.ops.toList pl ran t h=.ok c.te c.hE->c.FrO ran t->(∀ j∈ran,bd0 j<=h.next)->
  ∃ nx bd,(∀ j∈ran,nx j=nx0 j/\bd j=bd0 j)/\(c.wi nx bd).RunP pl h/\(∀ i,i<c.ops.size->bd i<=c.hE.next)/\
   ∀ i,i<c.ops.size->i∉ran->(c.wi nx bd).GI i/\(c.IsCl i .al->i∈pl.als)/\(c.IsCl i .ch->i∈pl.chs)
 | .last pre als,ran,t,h,nx0,bd0,e,hO,hb=>by
  unfold planF at e
  have hlast: ∀ ran t h,(ifb (allI (fun i _=>memB i ran) c.ops.toList 0) fi (fun _ _=>.bad):RgF) t h=.ok c.te c.hE->(∀ i,i<c.ops.size->i∈ran)/\t=c.te/\h=c.hE:=by
   intro ran t h e
   cases hB:allI (fun i _=>memB i ran) c.ops.toList 0 with
   |false=>rw[hB]at e;cases e
   |true=>
    rw[hB]at e
    obtain⟨h1,h2⟩:=Rt.ok.inj e
    refine⟨fun i hi=>?_,h1,h2⟩
    have:=allI_iff hB i c.ops[i] (by simp[hi])
    exact memB_iff.1 this
  have hk: ∀ ran t h,(ifb (allI (fun i _=>memB i ran) c.ops.toList 0) fi (fun _ _=>.bad):RgF) t h=.ok c.te c.hE->c.Fr ran t:=by
   intro ran t h e
   obtain⟨_,rfl,_⟩:=hlast ran t h e
   exact fun u _ _=>rfl
  obtain⟨nx,bd,a1,a2,ran1,⟨h1,ran2,b2,⟨rfl,b3,b4⟩,b5⟩,a4⟩:=preF_ok (Φ:=fun nx bd ran1=> ∃ h1 ran2,(c.wi nx bd).AlsP als h h1/\(h1=c.hE/\(∀ i,i<c.ops.size->i∈ran2)/\(∀ i∈ran2,bd i<=c.hE.next))/\
   ∀ i∈ran2,i∈ran1∨((c.wi nx bd).GI i/\i∈als/\(c.IsCl i .p0∨c.IsCl i .al))) hnt hsame hds (alsF_fr hnt hk als) (fun ran t nx0 bd0 e hO hb=>by
   obtain⟨nx,bd,a1,h1,ran2,a2,a3,a4⟩:=alsF_ok (Φ:=fun nx bd ran2 h1=>h1=c.hE/\(∀ i,i<c.ops.size->i∈ran2)/\(∀ i∈ran2,bd i<=c.hE.next)) hnt hsame hds hk (fun ran t h nx0 bd0 e hO hb=>by
    obtain⟨h1,_,rfl⟩:=hlast ran t h e
    exact⟨nx0,bd0,fun _ _=>⟨rfl,rfl⟩,rfl,h1,hb⟩) als ran t h nx0 bd0 e hO hb
   exact⟨nx,bd,a1,h1,ran2,a2,a3,a4⟩) pre ran t nx0 bd0 e hO hb
  refine⟨nx,bd,a1,⟨a2,b2⟩,fun i hi=>b4 i (b3 i hi),fun i hi hn=>?_⟩
  rcases b5 i (b3 i hi)with h|⟨h,h6,h7⟩
  ·rcases a4 i h with h|⟨h,h5⟩
   ·exact absurd h hn
   ·refine⟨h,fun hc=>?_,fun hc=>?_⟩
    ·rcases h5 with h5|h5<;>cases c.cl_al h5 hc
    ·rcases h5 with h5|h5<;>cases c.cl_al h5 hc
  ·refine⟨h,fun _=>h6,fun hc=>?_⟩
   rcases h7 with h5|h5<;>cases c.cl_al h5 hc
 | .cons pre als q rest,ran,t,h,nx0,bd0,e,hO,hb=>by
  unfold planF at e
  have hq: ∀ ran t h,(ifb (rdB c.nt c.ops.toList ran q&&(!memB q ran&&clB c.P c.call c.ops.toList .ch q)) (runM c.P c.call c.nt c.ops.toList q (planF c.P c.call c.nt c.ops.toList rest (q::ran))) (fun _ _=>.bad):RgF) t h=.ok c.te c.hE->
   rdB c.nt c.ops.toList ran q=true/\q∉ran/\c.IsCl q .ch/\ ∃ o v h1 t1,c.ops[q]? =some o/\gOp c.P c.call c.nt c.ops.toList o t h=.ok v h1/\h.next<=h1.next/\planF c.P c.call c.nt c.ops.toList rest (q::ran) t1 h1=.ok c.te c.hE/\
    ((∃ d,o.dst=some d/\d<c.nt/\t1=sT d v t)∨(o.dst=none/\t1=t)):=by
   intro ran t h e
   cases h1:(rdB c.nt c.ops.toList ran q&&(!memB q ran&&clB c.P c.call c.ops.toList .ch q))with
   |false=>rw[h1]at e;cases e
   |true=>
    rw[h1]at e
    simp only[Bool.and_eq_true,Bool.not_eq_true']at h1
    exact⟨h1.1,not_memB h1.2.1,clB_iff.1 h1.2.2,runM_inv e⟩
  have hk: ∀ ran t h,(ifb (rdB c.nt c.ops.toList ran q&&(!memB q ran&&clB c.P c.call c.ops.toList .ch q)) (runM c.P c.call c.nt c.ops.toList q (planF c.P c.call c.nt c.ops.toList rest (q::ran))) (fun _ _=>.bad):RgF) t h=.ok c.te c.hE->c.Fr ran t:=by
   intro ran t h e
   obtain⟨_,hni,_,o,v,h1,t1,ho,_,_,e,ht⟩:=hq ran t h e
   exact fr_step hnt ho hni ht (planF_fr hnt rest (q::ran) t1 h1 e)
  obtain⟨nx,bd,a1,a2,ran1,⟨h1,ran2,b2,⟨c1,v,h2,c2,c3,c4,c5,c6,c7,c8,c9⟩,b5⟩,a4⟩:=preF_ok (Φ:=fun nx bd ran1=> ∃ h1 ran2,(c.wi nx bd).AlsP als h h1/\
   (c.IsCl q .ch/\ ∃ v h2,c.FE q (c.rf q) h1=.ok v h2/\c.Slot q v/\(c.wi nx bd).RdOk q h1.next/\bd q=h2.next/\h1.next<=h2.next/\(c.wi nx bd).RunP rest h2/\(∀ i,i<c.ops.size->bd i<=c.hE.next)/\
    ∀ i,i<c.ops.size->i∉q::ran2->(c.wi nx bd).GI i/\(c.IsCl i .al->i∈rest.als)/\(c.IsCl i .ch->i∈rest.chs))/\
   ∀ i∈ran2,i∈ran1∨((c.wi nx bd).GI i/\i∈als/\(c.IsCl i .p0∨c.IsCl i .al))) hnt hsame hds (alsF_fr hnt hk als) (fun ran t nx0 bd0 e hO hb=>by
   obtain⟨nx,bd,a1,h1,ran2,a2,a3,a4⟩:=alsF_ok (Φ:=fun nx bd ran2 h1=>c.IsCl q .ch/\ ∃ v h2,c.FE q (c.rf q) h1=.ok v h2/\c.Slot q v/\(c.wi nx bd).RdOk q h1.next/\bd q=h2.next/\h1.next<=h2.next/\(c.wi nx bd).RunP rest h2/\
    (∀ i,i<c.ops.size->bd i<=c.hE.next)/\ ∀ i,i<c.ops.size->i∉q::ran2->(c.wi nx bd).GI i/\(c.IsCl i .al->i∈rest.als)/\(c.IsCl i .ch->i∈rest.chs)) hnt hsame hds hk (fun ran t h nx0 bd0 e hO hb=>by
    obtain⟨hr,hni,hcl,o,v,h1,t1,ho,hg,hle,e,ht⟩:=hq ran t h e
    have hne: ∀ j∈ran,j≠q:=fun j hj e=>hni (e▸hj)
    have Fq:=planF_fr hnt rest (q::ran) t1 h1 e
    obtain⟨nx,bd,a1,a2,a3,a4⟩:=planF_ok hnt hsame hds rest (q::ran) t1 h1 (upd nx0 q h.next) (upd bd0 q h1.next) e (fro_step hnt ho ht hO) (fun j hj=>by
     rcases List.mem_cons.1 hj with rfl|hj
     ·rw[upd_self];exact Nat.le_refl _
     ·rw[upd_ne (hne j hj)];exact Nat.le_trans (hb j hj) hle)
    have agree: ∀ j∈ran,nx j=nx0 j/\bd j=bd0 j:=fun j hj=>by
     have:=a1 j (List.mem_cons_of_mem _ hj)
     rwa [upd_ne (hne j hj),upd_ne (hne j hj)]at this
    have hbq:bd q=h1.next:=by
     have:=(a1 q List.mem_cons_self).2
     rwa [upd_self]at this
    exact⟨nx,bd,agree,hcl,v,h1,at_te hnt hsame (fr_step hnt ho hni ht Fq) hO ho hr hg,slot_step hnt hds ho ht Fq,
     rd_ok (c:=c.wi nx bd) hr (fun j hj=>by show bd j<=_;rw[(agree j hj).2];exact hb j hj),hbq,hle,a2,a3,a4⟩) als ran t h nx0 bd0 e hO hb
   exact⟨nx,bd,a1,h1,ran2,a2,a3,a4⟩) pre ran t nx0 bd0 e hO hb
  refine⟨nx,bd,a1,⟨a2,h1,b2,c1,v,h2,(by rw[rf_wi];exact c2),c3,c4,c5,c6,c7⟩,c8,fun i hi hn=>?_⟩
  by_cases hiq:i=q
  ·subst hiq
   refine⟨⟨fun hc=>?_,fun hc=>?_⟩,fun hc=>?_,fun _=>List.mem_cons_self⟩
   ·cases c.cl_al c1 hc
   ·cases c.cl_al c1 hc
   ·cases c.cl_al c1 hc
  ·by_cases h2':i∈ran2
   ·rcases b5 i h2' with h|⟨h,h6,h7⟩
    ·rcases a4 i h with h|⟨h,h5⟩
     ·exact absurd h hn
     ·refine⟨h,fun hc=>?_,fun hc=>?_⟩
      ·rcases h5 with h5|h5<;>cases c.cl_al h5 hc
      ·rcases h5 with h5|h5<;>cases c.cl_al h5 hc
    ·refine⟨h,fun _=>List.mem_append_left _ h6,fun hc=>?_⟩
     rcases h7 with h5|h5<;>cases c.cl_al h5 hc
   ·obtain⟨r1,r2,r3⟩:=c9 i hi (fun k=>by
     rcases List.mem_cons.1 k with k|k
     ·exact hiq k
     ·exact h2' k)
    exact⟨r1,fun hc=>List.mem_append_right _ (r2 hc),fun hc=>List.mem_cons_of_mem _ (r3 hc)⟩
end Cx
end Go.Ab

noncomputable section
namespace Go.Ab
variable [Io]
def pickL(ok:Nat->Nat->Bool)(l:List Nat):Nat->List Nat:=
 List.rec (fun _=>[]) (fun i _ ih r=>Bool.rec (ih r) (i::ih (Nat.lor r (Nat.pow 2 i))) (ok i r)) l
def maskL(l:List Nat)(r:Nat):Nat:=List.rec r (fun i _ ih=>Nat.lor (Nat.pow 2 i) ih) l
def bit(r i:Nat):Bool:=Nat.beq (Nat.mod (Nat.div r (Nat.pow 2 i)) 2) 1
def filterL(p:Nat->Bool)(l:List Nat):List Nat:=List.rec [] (fun i _ ih=>Bool.rec ih (i::ih) (p i)) l
def firstL(p:Nat->Bool)(l:List Nat):Option Nat:=List.rec none (fun i _ ih=>Bool.rec ih (some i) (p i)) l
def nums(l:List Oper):List Nat:=List.rec (fun _=>[]) (fun _ _ ih i=>i::ih (Nat.add i 1)) l 0
section
variable (P:Program)(call:CallF)(L:List Oper)
def segP(ms idx:List Nat)(fuel:Nat):Nat->List Nat->Plan:=
 Nat.rec (fun _ _=>.last [] []) (fun _ ih done chd=>
  match pickL (fun i r=>(clB P call L .p0 i||clB P call L .p1 i)&&(!bit r i&&Nat.beq (Nat.land ((getN ms i).getD 0) r) ((getN ms i).getD 0))) idx done with
  |new=>match filterL (fun i=>bit done i&&(clB P call L .p1 i&& !anyB (fun j=>bit ((getN ms j).getD 0) i) chd)) idx with
   |old=>match maskL new done with
    |done1=>match firstL (fun i=>clB P call L .ch i&& !bit done1 i) idx with
     |none=>.last (app old new) (pickL (fun i r=> !bit r i) idx done1)
     |some q=>match pickL (fun i r=> !bit r i&&bit ((getN ms q).getD 0) i) idx done1 with
      |als=>.cons (app old new) als q (ih (Nat.lor (Nat.pow 2 q) (maskL als done1)) (q::chd))) fuel
def mkPlan:Plan:=segP P call L (masks L []) (nums L) (Nat.succ (len L)) 0 []
end
def cDraw(P:Program)(call:CallF)(nt:Nat)(ops:Array Oper):RgF:=
 match mkPlan P call ops.toList with
 |pl=>ifb (downB ops.toList&&(dstB ops.toList&&statB P call ops.toList pl [])) (planF P call nt ops.toList pl []) (fun _ _=>.bad)
namespace Cx
variable {c:Cx}
omit [Io] in
theorem stat_of: ∀ (pl:Plan) (past:List Nat),statB c.P c.call c.ops.toList pl past=true->c.StatP past pl
 | .last pre als,past,h=>by
  intro i hi
  obtain⟨o,ho,_⟩:=id hi
  have:=rec_true (allI_iff h i o (by simpa using ho)) (clB_iff.2 hi)
  rw[Bool.or_eq_true,anyB_iff,memB_iff]at this
  exact this
 | .cons pre als q rest,past,h=>by
  unfold statB at h
  simp only[Bool.and_eq_true]at h
  obtain⟨h1,h2,h3,h4⟩:=h
  refine⟨fun i hi=>?_,fun i hi hc=>?_,fun q' hq=>?_,stat_of rest _ h4⟩
  ·obtain⟨o,ho,_⟩:=id hi
   have:=rec_true (allI_iff h1 i o (by simpa using ho)) (clB_iff.2 hi)
   rw[Bool.or_eq_true,Bool.or_eq_true,anyB_iff,anyB_iff,memB_iff]at this
   exact this
  ·rw[allB_eq,List.all_eq_true]at h2
   exact rec_true (h2 i hi) (clB_iff.2 hc)
  ·rw[allB_eq,List.all_eq_true]at h3
   exact h3 q' hq
omit [Io] in
theorem dst_of(h:dstB c.ops.toList=true): ∀ i j d,c.Dst i d->c.Dst j d->i=j:=by
 rintro i j d ⟨o,ho,hd⟩ ⟨o',ho',hd'⟩
 have h1:=allI_iff h i o (by simpa using ho)
 rw[hd]at h1
 have h2:=rec_true (allI_iff h1 j o' (by simpa using ho')) (eqDst_iff hd')
 exact Nat.eq_of_beq_eq_true h2
end Cx
theorem to_next{g:G}{w:World}{h:Hp}(H:HR g w h):g.to h.next=g:=by
 cases g with
 |mk m im=>
  unfold G.to
  simp only[G.mk.injEq,and_true]
  funext id
  by_cases hid:id<h.next
  ·simp only[hid,if_true]
  ·simp only[hid,if_false]
   exact(H.fresh id (by omega)).symm
omit [Io] in
theorem mono_heap{g:G}{w w':World}(h:w'.heap=w.heap):Mono g w g w':=
 ⟨fun _ _ e=>e,fun _ i=>i,fun b _=>by rw[h],fun b=>by unfold rowSize;rw[h];exact Nat.le_refl _⟩
theorem HR.heap{g:G}{w w':World}{hp:Hp}(h:w'.heap=w.heap)(H:HR g w hp):HR g w' hp:=by
 refine⟨H.fresh,fun id cs e=>?_,H.inj,fun b i=>by rw[h];exact H.imm b i,TbOk.mono (mono_heap h) H.tb⟩
 obtain⟨b,s,C,el,vs,h1,h2,h3,h4,h5⟩:=H.objs id cs e
 exact⟨b,s,C,el,vs,h1,by rw[h];exact h2,h3,VRs.mono' (mono_heap h) _ _ h4,h5⟩
omit [Io] in
theorem ext_drawn(g:G)(w:World)(h:Hp)(n:Nat):Ext g w h g {w with drawn:=n} h:=
 ⟨rfl,rfl,rfl,Nat.le_refl _,Nat.le_refl _,fun _ _ e=>e,fun _ _ _=>rfl,fun _=>Nat.le_refl _,fun _ i=>i,fun _ i=>.inl i,fun _ o=>.inl o⟩
theorem draw_ok{P:Program}(hm:P.follows .mixedOrders=true):DrawOk P (cDraw P):=by
 intro call nt hc id ops g w t h a t' h' H T D e Q K
 refine wp_region_draw fun tk=>?_
 rw[hm]
 change (ifb (downB ops.toList&&(dstB ops.toList&&statB P call ops.toList (mkPlan P call ops.toList) [])) (planF P call nt ops.toList (mkPlan P call ops.toList) []) (fun _ _=>.bad):RgF) t h=.ok t' h' at e
 cases hB:(downB ops.toList&&(dstB ops.toList&&statB P call ops.toList (mkPlan P call ops.toList) []))with
 |false=>rw[hB]at e;cases e
 |true=>
 rw[hB]at e
 change planF P call nt ops.toList (mkPlan P call ops.toList) [] t h=.ok t' h' at e
 simp only[Bool.and_eq_true]at hB
 obtain⟨hdn,hds,hst⟩:=hB
 obtain⟨pl,hpl⟩: ∃ pl,pl=mkPlan P call ops.toList:=⟨_,rfl⟩
 rw[<-hpl]at e hst
 have L:=schedule_lin (down_of hdn) tk
 let c0:Cx:=⟨P,call,ops,nt,t,t',fun _=>0,fun _=>0,g,w,h,h'⟩
 have hds': ∀ i j d,c0.Dst i d->c0.Dst j d->i=j:=Cx.dst_of (c:=c0) hds
 have hnt:nt<=512:=T.1
 have F:=Cx.planF_fr (c:=c0) hnt pl [] t h e
 have hsame: ∀ u,u<512->(∀ j,¬ c0.Dst j u)->c0.te.at u=c0.t0.at u:=fun u hu hd=>F u hu (fun j hj=>absurd hj (hd j))
 obtain⟨nx,bd,_,hrun,htop,hgi⟩:=Cx.planF_ok (c:=c0) hnt hsame hds' pl [] t h (fun _=>0) (fun _=>0) e (fun u _ _=>rfl) (fun j hj=>by cases hj)
 let c:Cx:=c0.wi nx bd
 have hlt: ∀ {i k},c.IsCl i k->i<c.ops.size:=fun⟨o,ho,_⟩=>(Array.getElem?_eq_some_iff.1 ho).1
 have G0:c.Glob:=
  ⟨fun i hi=>(hgi i (hlt hi) (by simp)).1.1 hi,fun i hi=>(hgi i (hlt hi) (by simp)).1.2 hi,hds',htop,hsame,hc,hnt⟩
 have hto:g.to h.next=g:=to_next H
 refine Cx.sim (c:=c) G0 K _ [] [] pl g {w with drawn:=w.drawn+1} h a L ?_
 exact
 {run:=hrun
  stat:=Cx.stat_of (c:=c) pl [] hst
  closed:=fun j hj=>by cases hj
  chs:=fun i hi=>.inl ((hgi i (hlt hi) (by simp)).2.2 hi)
  chN:=fun i _ h=>by cases h
  pastD:=fun j hj=>by cases hj
  alc:=fun i hi=>.inl ((hgi i (hlt hi) (by simp)).2.1 hi)
  st:=⟨(by rw[hto];exact HR.heap (w:=w) rfl H),(by rw[hto];exact ext_drawn _ _ _ _),(fun i _ h=>by cases h),(fun i _ j _ h=>by cases h)⟩
  dom:=fun id x m=>.inl (by
   refine Classical.byContradiction fun k=>?_
   rw[H.fresh id (by omega)]at m;cases m)
  slots:=fun j hj=>by cases hj
  free:=fun u v hu hd eu=>by
   obtain⟨h1,h2⟩:=T.2.2 u v hu eu
   refine⟨h1,?_⟩
   rw[hto]
   exact VR.mono' (mono_heap (w:=w) (w':={w with drawn:=w.drawn+1}) rfl) _ _ h2
  size:=T.2.1
  defers:=D}
end Go.Ab

noncomputable section
namespace Go.Ab
variable [Io]
def bodyOf(F:Func):Code:=match F.body with
 |some c=>c
 |none=>.skip
omit [Io] in
theorem fb_of{P:Program}{draw:CallF->Nat->Array Oper->RgF}{f:FuncId}{F:Func}{b:Fb}(h1:P.funcs[f]? =some F)(h2: ∀ args w,(callFunc f args).run P w=.ok (.enter f args) w)
 (h3:F.body.isSome=true)(h4:b.ntmps=F.ntmps)(h5:Nat.ble b.ntmps 512=true)(h6:cRVs P b.ntmps F.results.toList=some b.res)
 (h7:b.body=fun call n=>cCode P (draw call b.ntmps) call n b.ntmps (bodyOf F)):FbOk P draw f b:=by
 refine⟨⟨F,bodyOf F,h1,?_,h4,Nat.ble_eq.mp h5,h6,h7⟩,h2⟩
 unfold bodyOf
 cases h:F.body with
 |none=>rw[h]at h3;cases h3
 |some c=>rfl
def AllT{α:Type}(p:Nat->α->Prop)(a b:Nat):Tr α->Prop
 | .nil=>True
 | .node l v r=>(∀ x,v=some x->p b x)/\AllT p (2*a) (a+b) l/\AllT p (2*a) (2*a+b) r
omit [Io] in
theorem AllT.get{α:Type}{p:Nat->α->Prop}: ∀ {t:Tr α} {a b:Nat},AllT p a b t-> ∀ k x,t.get k=some x->p (a*k+b) x
 | .nil,a,b,_,k,x,e=>by cases e
 | .node l v r,a,b,⟨h1,h2,h3⟩,k,x,e=>by
  rw[Tr.get_node]at e
  by_cases h0:k=0
  ·subst h0
   rw[if_pos rfl]at e
   simpa using h1 x e
  ·rw[if_neg h0]at e
   by_cases hk:k % 2=1
   ·rw[if_pos hk]at e
    have:=h2.get _ x e
    have e2:2*a*(k / 2)+(a+b)=a*k+b:=by
     have:k=2*(k / 2)+1:=by omega
     generalize k / 2=m at*
     subst this
     rw[Nat.mul_add,Nat.mul_one,<-Nat.mul_assoc,Nat.mul_comm a 2]
     omega
    rwa [e2]at this
   ·rw[if_neg hk]at e
    have:=h3.get _ x e
    have e2:2*a*(k / 2 - 1)+(2*a+b)=a*k+b:=by
     have:k=2*(k / 2 - 1)+2:=by omega
     generalize k / 2 - 1=m at*
     subst this
     rw[Nat.mul_add,<-Nat.mul_assoc,Nat.mul_comm a 2]
     omega
    rwa [e2]at this
omit [Io] in
theorem at_none{α:Type}{p:Nat->α->Prop}{b:Nat}: ∀ x,(none:Option α)=some x->p b x:=fun _ e=>by cases e
omit [Io] in
theorem at_some{α:Type}{p:Nat->α->Prop}{b:Nat}{y:α}(h:p b y): ∀ x,some y=some x->p b x:=fun _ e=>by cases e;exact h
end Go.Ab
