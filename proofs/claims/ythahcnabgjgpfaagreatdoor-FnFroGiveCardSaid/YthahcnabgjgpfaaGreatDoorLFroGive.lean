/- What the function of this law does, in data. Conditions: none. -/
import Derived.KernelRfl
import Derived.IntWalk
import Derived.Test.YthahcnabgjgpfaaGreatDoorProg
import Derived.ArgAppend
import Derived.Deep.AppendSrc
import Derived.Laws.IdiomCopy
import Derived.Shelf.RegionOpenPlain
import Derived.WalkKit
import Derived.Deep.LoopGhost
import Derived.Deep.RegionLaw
import Derived.Lib.Walk
import Derived.Lib.SliceRun
import Derived.Lib.AppendZerosOnto
import Derived.Lib.Overlaps
import Derived.Laws.Externs
import Derived.Test.YthahcnabgjgpfaaGreatDoorK04
namespace Go.Proofs.AI
open Go.RowKit
set_option linter.unusedVariables false
set_option linter.unusedSimpArgs false
theorem wayEq_self (p:Way):wayEq p p↔True:=⟨fun _=>trivial,fun _=>rfl⟩
end Go.Proofs.AI
namespace Go.Proofs.AI
open Go.RowKit Go.Proofs
set_option linter.unusedVariables false
set_option linter.unusedSimpArgs false
set_option maxRecDepth 100000
theorem ext_getD {α:Type} {xs ys:List α} {d:α} (hl:xs.length=ys.length) (h:∀ j,j<xs.length->xs.getD j d=ys.getD j d):xs=ys:=by
 refine List.ext_getElem hl fun j h1 h2=>?_
 have:=h j h1
 rwa [getD_lt h1,getD_lt h2] at this
theorem Disk_ext {a b:Disk} (h0:a.notes=b.notes) (h1:a.safe=b.safe):a=b:=by cases a;cases b;simp_all
abbrev cKFTxS (x:FTx):List SC:=[.c (.n .i64 x.tx),.c (.n .i64 x.op.kind),.c (.n .i64 x.op.who),.c (.n .i64 x.op.inn),.c (.n .i64 x.op.code),.c (.n .i64 x.op.sec),.c (.n .i64 x.op.fam),.c (.n .i64 x.op.gen),.c (.b x.yes),.c (sI x.can),.c (sI x.know)]
abbrev kFTxS (x:FTx):Ky:=⟨.agg,cKFTxS x,[]⟩
theorem Front_ext {a b:Front} (h0:a.disk=b.disk) (h1:a.way=b.way):a=b:=by cases a;cases b;simp_all
theorem FOut_ext {a b:FOut} (h0:a.tx=b.tx) (h1:a.ok=b.ok):a=b:=by cases a;cases b;simp_all
abbrev y_30:Type:=List Wrt×List Wrt
abbrev y_31:Type:=List Note×List Note
abbrev y_32:Type:=List Msg×List Msg
abbrev y_35:Type:=List FOut×List FOut
end Go.Proofs.AI
namespace Go.Proofs.AI
open Go.RowKit Go.Proofs
set_option linter.unusedVariables false
set_option linter.unusedSimpArgs false
set_option maxRecDepth 100000
theorem laws_jaInts_ok (xs:List Int) (ys:List Int):FunOK Tryz.prog 90 2 [] [(0,k1 (sI xs)),(1,k1 (sI ys))] (·=[(2,kB (decide (xs=ys)))]):=by
 refine fun_to (E:=⟨tab,ctOf [],26,[],[(0,[0,1]),(1,[0,1,10]),(2,[4]),(3,[0,1,5]),(4,[0,1,5,14]),(5,[0,1,5]),(6,[0,1,5,25]),(7,[4]),(8,[4])],[(0,⟨Nat,fun x=>[(0,(k1 (.sh 3 (typ (0:Int) eI xs)))),(1,(k1 (.sh 3 (typ (0:Int) eI ys)))),(5,(k1 (.n .i64 (x:Int))))]⟩)],[],[],[]⟩) tab_ok mixed Tryz.func90 rfl Tryz.ntmps90 (rvs:=[.tmp 4]) Tryz.results90 rfl fun hl=>?_
 refine cast (show ((((zi xs.length) != zi ys.length)=true->false=decide (xs=ys))/\(((zi xs.length) != zi ys.length)=false->∃ (pre:Nat->Prop),∃ (μ:Nat->Nat),∃ (x0:Nat),(q_I xs xs/\q_I ys ys/\i_0=zi x0)/\pre x0/\∀ (x:Nat),pre x->(decide (zi x<zi xs.length)=true->(i_0<=zi x/\zi x<zi xs.length)/\(i_0<=zi x/\zi x<zi ys.length)/\((g_Int xs x != g_Int ys x)=true->false=decide (xs=ys))/\((g_Int xs x != g_Int ys x)=false->∃ (y:Nat),(q_I xs xs/\q_I ys ys/\wr_ ((zi x)+i_1)=zi y)/\pre y/\μ y<μ x))/\(decide (zi x<zi xs.length)=false->true=decide (xs=ys))))=_ by kernel_rfl) ?_
 delta i_0 i_1 wr_ g_Int zi t_I q_I
 have hx:xs.length<=9223372036854775807:=hl.1 _ (List.mem_singleton.2 rfl)
 refine ⟨fun h=>?_,fun h=>⟨fun i=>i<=xs.length/\∀ j,j<i->xs.getD j 0=ys.getD j 0,fun i=>xs.length-i,0,by simp,by simp,fun x hp=>?_⟩⟩
 ·simp only [bne_iff_ne,ne_eq] at h
  exact (decide_eq_false fun he=>h (by rw [he])).symm
 ·have hlen:xs.length=ys.length:=by
                      have:(xs.length:Int)=ys.length:=by simpa [bne] using h
                      omega
  obtain ⟨h1,h2⟩:=hp
  refine ⟨fun hlt=>?_,fun hge=>?_⟩
  ·have hlt:x<xs.length:=by simpa using hlt
   refine ⟨⟨by omega,by omega⟩,⟨by omega,by omega⟩,fun he=>?_,fun he=>⟨x+1,⟨rfl,rfl,wrapN (by omega)⟩,⟨by omega,below_succ h2 ?_⟩,muN hlt⟩⟩
   ·simp only [Int.toNat_natCast,bne_iff_ne,ne_eq] at he
    exact (decide_eq_false fun h=>he (by rw [h])).symm
   ·simpa [bne] using he
  ·have:x=xs.length:=by simp at hge;omega
   subst this
   exact (decide_eq_true (ext_getD hlen h2)).symm
def laws_jaInts_c:Con Tryz.prog:=con0 [.lend,.lend] fun b:List Int×List Int=>laws_jaInts_ok (b.1) (b.2)
end Go.Proofs.AI
namespace Go.Proofs.AI
open Go.RowKit Go.Proofs
set_option linter.unusedVariables false
set_option linter.unusedSimpArgs false
set_option maxRecDepth 100000
theorem opr_ex' {o:Opr} {P:Opr->Prop}:(∃ x:Opr,(o.kind=x.kind/\o.who=x.who/\o.inn=x.inn/\o.code=x.code/\o.sec=x.sec/\o.fam=x.fam/\o.gen=x.gen)/\P x)↔P o :=
 ⟨fun ⟨x,⟨h1,h2,h3,h4,h5,h6,h7⟩,h⟩=>by cases o;cases x;simp_all,fun h=>⟨o,⟨rfl,rfl,rfl,rfl,rfl,rfl,rfl⟩,h⟩⟩
theorem impl_OpPlaces_ok (o:Opr):FunOK Tryz.prog 33 1 [] [(0,kOp o)] (·=[(1,k1 (oI (placesL o)))]):=by
 refine fun_to (E:=⟨tab,ctOf [impl_OpOk_c],23,[],[(0,[1,11,21,22]),(1,[1,3,11,21,22]),(2,[2,11,21,22]),(3,[1,7,11,21,22]),(4,[2,11,21,22]),(5,[11,12,21,22]),(6,[2,11,21,22]),(7,[2,11,21,22])],[],[],[],[]⟩) tab_ok mixed Tryz.func33 rfl Tryz.ntmps33 (rvs:=[.tmp 2]) Tryz.results33 rfl fun hl=>?_
 refine cast (show (let k_1:Prop:=cnRs (typ i_0 (fun (y:Int)=>[cn_ y]) [i_1,i_2,i_3])=t_I (placesL o);∃ (b:Opr),(o.kind=b.kind/\o.who=b.who/\o.inn=b.inn/\o.code=b.code/\o.sec=b.sec/\o.fam=b.fam/\o.gen=b.gen)/\((!opOk b)=true->(placesL o).length=n_0)/\((!opOk b)=false->((o.kind==i_1)=true->cnRs (typ i_0 (fun (y:Int)=>[cn_ y]) [i_1,i_3])=t_I (placesL o))/\((o.kind==i_1)=false->((o.kind==i_2)=false->((o.kind==i_5)=true->k_1)/\((o.kind==i_5)=false->cnRs (typ i_0 (fun (y:Int)=>[cn_ y]) [i_2,i_3])=t_I (placesL o)))/\((o.kind==i_2)=true->k_1))))=_ by kernel_rfl) ?_
 delta i_0 i_1 i_5 i_2 i_3 t_I n_0 cn_
 simp only [opr_ex',placesL]
 repeat' (first | apply And.intro | intro)
 all_goals (simp_all)
def impl_OpPlaces_c:Con Tryz.prog:=con0 [.lend] fun b:Opr=>impl_OpPlaces_ok b
end Go.Proofs.AI
namespace Go.Proofs.AI
open Go.RowKit Go.Proofs
set_option linter.unusedVariables false
set_option linter.unusedSimpArgs false
set_option maxRecDepth 100000
theorem slices_Clone_int_ok (vs:List Int) (hpre:0<vs.length/\vs.length<=1000):FunOK Tryz.prog 117 1 [] [(0,k1 (sI vs))] (·=[(1,k1 (oI vs))]):=by
 refine fun_to (E:=⟨tab,ctOf [],8,[],[(0,[0,5,6,7]),(1,[0,4,5,6,7]),(2,[0,2,5,6,7]),(3,[0,2,5,6,7])],[],[],[],[]⟩) tab_ok mixed Tryz.func117 rfl Tryz.ntmps117 (rvs:=[.tmp 2]) Tryz.results117 rfl fun hl=>?_
 refine cast (show (n_0<vs.length/\((if false=true then true else false)=true->vs.length=n_0)/\((if false=true then true else false)=false->(n_0+vs.length)*n_8<=n_140737488355328/\cnRs (appR (raw []) (typ i_0 eI vs))=t_I vs))=_ by kernel_rfl) ?_
 delta i_0 t_I n_0 n_8 n_140737488355328
 simp only [zza,true_and,and_true,and_self,ne_eq,cI_app,cWrtO_app,cWrtS_app,cWrtO_1,cItemO_1,opr_ex,zcast,frz_nil,nil_map]
 refine ⟨hpre.1,fun h=>by simp at h,fun _=>⟨by omega,?_⟩⟩
 simp [cI]
theorem eqB_iff' {a b:ByteArray}:eqB a b=true↔a=b:=by
 simp only [eqB,beq_iff_eq,ByteArray.toList_eq,Array.toList_inj]
 exact ⟨fun h=>ByteArray.ext h,fun h=>by rw [h]⟩
end Go.Proofs.AI
namespace Go.Proofs.AI
open Go.RowKit Go.Proofs
set_option linter.unusedVariables false
set_option linter.unusedSimpArgs false
set_option maxRecDepth 100000
theorem i4:(if (false=true) then false else true)=true:=rfl
end Go.Proofs.AI
namespace Go.Proofs.AI
open Go.RowKit
set_option linter.unusedVariables false
set_option linter.unusedSimpArgs false
theorem oth_setCells (g:Nat):∀ (vs:List Value) (o:Nat) (w:World),Oth w (w.setCells g o vs) g
 | [],o,w=>Oth.refl _ _
 | v::r,o,w=>by
  rw [World.setCells]
  refine Oth.trans ?_ (oth_setCells g r (o+1) _)
  refine ⟨rfl,rfl,rfl,by simp [World.setCell],fun b hb hn=>heap_far w g o v hn⟩
theorem setCells_heap (g:Nat):∀ (vs:List Value) (o:Nat) (w:World) {cur:Array Value} {e:TypeId} {fr:Nat×Nat},w.heap[g]?=some (.cells cur e fr) ->
  ∃ cur',(w.setCells g o vs).heap[g]?=some (.cells cur' e fr)/\cur'.size=cur.size/\(∀ q,q<o∨o+vs.length<=q->cur'[q]?=cur[q]?)/\∀ (j:Nat) v,vs[j]?=some v->o+j<cur.size->cur'[o+j]?=some v
 | [],o,w,cur,e,fr,h=>⟨cur,h,rfl,fun _ _=>rfl,fun j v hj=>by simp at hj⟩
 | v::r,o,w,cur,e,fr,h=>by
  rw [World.setCells]
  obtain ⟨cur',h1,h2,h3,h4⟩:=setCells_heap g r (o+1) _ (heap_set w g o v h)
  refine ⟨cur',h1,by simpa using h2,fun q hq=>?_,fun j u hj hlt=>?_⟩
  ·rw [h3 q (by simp at hq;omega),Array.getElem?_setIfInBounds_ne (by simp at hq;omega)]
  ·cases j with
   | zero =>
    simp at hj;subst hj
    rw [Nat.add_zero,h3 o (by omega)]
    simp at hlt
    simp [hlt]
   | succ j =>
    have:=h4 j u (by simpa using hj) (by simpa using by omega)
    rw [show o+(j+1)=o+1+j by omega];exact this
theorem cell_of {w:World} {g:Nat} {cur:Array Value} {e:TypeId} (h:w.heap[g]?=some (.cells cur e (0,0))) (q:Nat):w.cell? ⟨g,q,none⟩=cur[q]?:=by
 simp [World.cell?,h]
theorem frozen_of {w:World} {g:Nat} {cur:Array Value} {e:TypeId} (h:w.heap[g]?=some (.cells cur e (0,0))) (q:Nat):w.frozen? ⟨g,q,none⟩=false:=by
 simp [World.frozen?,h]
section
variable {P:Program}
theorem run_clear_any (w:World) (t e ty:TypeId) (z:Value) (ht:P.underlying t=some (.slice e)) (hv:∀ w,(zeroValue e).run P w=.ok z w) (h1:∀ v∈z.cells,v.oneCell'=true) (b o n c:Nat) (hn:0<n)
  (hc:∀ j,j<n*z.cells.size->(w.cell? ⟨b,o+j,none⟩).isSome=true) (hf:∀ j,j<n*z.cells.size->w.frozen? ⟨b,o+j,none⟩=false) :
  ∃ zs:List Value,(Builtin.clear_ #[t] ty #[.slice (some ⟨b,o,none⟩) n c]).run P w=.ok (.tuple #[]) (w.setCells b o zs)/\zs.length=n*z.cells.size:=by
 have hl:(Builtin.zeroCells z.cells n).toList.length=n*z.cells.size:=by simp [Builtin.zeroCells]
 have hone:∀ v∈(Builtin.zeroCells z.cells n).toList,v.oneCell'=true:=fun v hv'=>by
  simp only [Builtin.zeroCells,Array.toList_map,List.mem_map] at hv'
  obtain ⟨k,hk,rfl⟩:=hv'
  have hk:k<n*z.cells.size:=by simpa using hk
  have hlt:k % z.cells.size<z.cells.size:=Nat.mod_lt _ (by
   rcases Nat.eq_zero_or_pos z.cells.size with h | h
   ·rw [h] at hk;simp at hk
   ·exact h)
  rw [getElem!_pos z.cells _ hlt]
  exact h1 _ (Array.getElem_mem hlt)
 have hst:=run_storeCells_cells (P:=P) b o (Builtin.zeroCells z.cells n).toList 0 w (by rw [hl];simpa using hc) (by rw [hl];simpa using hf) hone
 simp only [Nat.add_zero] at hst
 obtain ⟨m,rfl⟩:∃ m,n=m+1:=⟨n-1,by omega⟩
 exact ⟨_,by simp [Builtin.clear_,run_underlying ht,hv,hst],hl⟩
end
def delR {C:Type} (es:Rows C) (i j:Nat):Rows C:=⟨es.n-(j-i),fun k=>if k<i then es.f k else es.f (k+(j-i))⟩
def DelCall (P:Program) (f:FuncId) (e:TypeId) (z:Nat):Prop:=∀ (w:World) (g n cap i j:Nat) (cur:Array Value),w.heap[g]?=some (.cells cur e (0,0))->cur.size=cap*z->n<=cap->cap<=maxLen->i<j->j<=n->(∀ q v,q<n*z->cur[q]?=some v->v.oneCell'=true) ->
 Calls P f #[.slice (some ⟨g,0,none⟩) n cap,.int .i64 i,.int .i64 j] w fun ed w'=>ed=.returned (.slice (some ⟨g,0,none⟩) (n-(j-i)) cap)/\∃ cur':Array Value,w'.heap[g]?=some (.cells cur' e (0,0))/\cur'.size=cur.size /\
  (∀ q,q<i*z->cur'[q]?=cur[q]?)/\(∀ q,i*z<=q->q<(n-(j-i))*z->cur'[q]?=cur[q+(j-i)*z]?)/\Oth w w' g
theorem rel_ret {P:Program} {m:Nat} {w w':World} {F0:CP} {I0:Nat->Prop} {args:Array Value} {ins:L} {I:Nat->Prop} {U:Nat->Nat->Value} {B:Nat->Nat×Nat} {F:Nat->FP} (hr:RelW ⟨P,m,w,F0,I0,[],#[]⟩ I U B F (mk ins) ⟨args,[]⟩ w)
  {y:CV} {v:Value} {N:FP} (hy:Rep P w' I y v N) (hN:∀ b,N b->b<w'.heap.size/\¬ I b/\(w.heap.size<=b∨∀ q,F0 b q)) (hf:Fr w w' F0) :
  Rel ⟨P,m+1,w,F0,I0,[],args⟩ (mk [(m,⟨.one,[.c y],[]⟩)]) ⟨args.push v,[]⟩ w':=by
 have hsz:args.size=m:=hr.size
 refine ⟨I,fun _ _=>v,fun _=>(0,0),fun t=>if t=m then N else FP.none,⟨by simp [hsz],rfl,fun t K hK=>?_,fun t t' b h1 h2=>?_,fun t b hb=>?_,fun t b hb=>?_,fun b hb=>Nat.lt_of_lt_of_le (hr.ro b hb) hf.size,hr.ro0,hr.roN,hf⟩⟩
 ·simp only [mk,up] at hK
  split at hK
  ·rename_i ht
   subst ht;cases hK
   refine ⟨Nat.lt_succ_self _,⟨⟨fun _ _=>hy.one,rfl,?_⟩,⟨fun o=>if o=0 then N else FP.none,fun o x hx=>?_,fun o o' b h1 h2=>?_,fun o b hb=>?_⟩,fun b hb=>by cases hb.1⟩⟩
   ·show (args.push v).getD t undef=v
    rw [<- hsz];simp [Array.getD_eq_getD_getElem?]
   ·cases o with
    | zero=>simp at hx;subst hx;exact hy
    | succ o=>simp at hx
   ·by_cases e1:o=0<;>by_cases e2:o'=0
    ·omega
    ·simp [e2,FP.none] at h2
    ·simp [e1,FP.none] at h1
    ·simp [e1,FP.none] at h1
   ·by_cases e1:o=0
    ·simp [e1] at hb;exact ⟨by simpa using hb,fun hr=>by cases hr.1⟩
    ·simp [e1,FP.none] at hb
  ·cases hK
 ·by_cases e1:t=m<;>by_cases e2:t'=m
  ·rw [e1,e2]
  ·simp [e2,FP.none] at h2
  ·simp [e1,FP.none] at h1
  ·simp [e1,FP.none] at h1
 ·by_cases e1:t=m
  ·simp [e1] at hb;exact ⟨(hN b hb).1,(hN b hb).2.1⟩
  ·simp [e1,FP.none] at hb
 ·by_cases e1:t=m
  ·simp [e1] at hb;exact (hN b hb).2.2.imp id .inl
  ·simp [e1,FP.none] at hb
end Go.Proofs.AI
namespace Go.Proofs.AI
open Go.RowKit
set_option linter.unusedVariables false
set_option linter.unusedSimpArgs false
abbrev kc (y:CV):Ky:=⟨.one,[.c y],[]⟩
theorem arr3 {args:Array Value} (h:args.size=3):args=#[args.getD 0 undef,args.getD 1 undef,args.getD 2 undef]:=by
 refine Array.ext (by simp [h]) fun j h1 h2=>?_
 have hj:j=0∨j=1∨j=2:=by omega
 rcases hj with rfl | rfl | rfl<;>simp [Array.getD_eq_getD_getElem?,h1]
theorem delR_l {C:Type} (es:Rows C) {i j k:Nat} {row:List C} (hij:i<j) (hj:j<=es.n) (h:(delR es i j).l[k]?=some row):k<es.n-(j-i)/\es.l[if k<i then k else k+(j-i)]?=some row:=by
 obtain ⟨h1,h2⟩:=Rows.l_lt h
 simp only [delR] at h1 h2
 refine ⟨h1,?_⟩
 split at h2<;>rename_i hk
 ·rw [if_pos hk,Rows.l_eq es (by omega),h2]
 ·rw [if_neg hk,Rows.l_eq es (by omega),h2]
section
variable {P:Program} {f:FuncId} {e:TypeId} {z:Nat}
theorem del_fun (hc:DelCall P f e z) (hz:P.cellsOf e=z) (hent:∀ args w,(callFunc f args).run P w=.ok (.enter f args) w) (es:Rows CV) (i j:Nat) (hij:i<j) (hj:j<=es.n) :
  FunOK P f 3 [] [(0,kc (.ow e es)),(1,kc (.n .i64 i)),(2,kc (.n .i64 j))] (·=[(3,kc (.ow e (delR es i j)))]):=by
 intro F0 I0 args w hs ⟨I,U,B,F,hr⟩
 obtain ⟨_,r0,⟨N0,n0,_,f0⟩,_⟩:=hr.key 0 (kc (.ow e es)) (by simp [mk,up])
 obtain ⟨_,r1,⟨N1,n1,_⟩,_⟩:=hr.key 1 (kc (.n .i64 i)) (by simp [mk,up])
 obtain ⟨_,r2,⟨N2,n2,_⟩,_⟩:=hr.key 2 (kc (.n .i64 j)) (by simp [mk,up])
 have a0:args.getD 0 undef=U 0 0:=r0.2.2
 have a1:args.getD 1 undef=.int .i64 i:=by rw [show args.getD 1 undef=U 1 0 from r1.2.2];exact rep_n (n1 0 _ rfl)
 have a2:args.getD 2 undef=.int .i64 j:=by rw [show args.getD 2 undef=U 2 0 from r2.2.2];exact rep_n (n2 0 _ rfl)
 have hrep:Rep P w I (.ow e es) (U 0 0) (N0 0):=n0 0 _ rfl
 rcases Rep.ow_inv hrep with ⟨_,h0⟩ | ⟨g,cap,cur,us,G,hv,h1,h2,h3,h4,h5,h6,h7,h8,h9,h10,h11⟩
 ·omega
 rw [hz] at h2 h7 h8
 have hargs:args=#[.slice (some ⟨g,0,none⟩) es.n cap,.int .i64 i,.int .i64 j]:=by rw [arr3 hs,a0,a1,a2,hv]
 have hown:∀ b,N0 0 b->b<w.heap.size/\¬ I b/\∀ q,F0 b q:=fun b hb=>by
  have hb:=(f0 0 b hb).1
  obtain ⟨o1,o2⟩:=hr.own 0 b hb
  refine ⟨o1,o2,?_⟩
  rcases hr.may 0 b hb with m1 | m1 | ⟨K,m1,m2,_⟩
  ·exact absurd m1 (by simp only;omega)
  ·exact m1
  ·simp [mk,up] at m1;subst m1;cases m2.1
 have hone:∀ q v,q<es.n*z->cur[q]?=some v->v.oneCell'=true:=fun q v hq hv'=>by
  rcases Nat.eq_zero_or_pos z with hz0 | hz0
  ·rw [hz0] at hq;simp at hq
  have hk:q / z<es.n:=by rw [Nat.div_lt_iff_lt_mul hz0];exact hq
  have hrow:=Rows.l_eq es hk
  have hl:=h7 _ _ hrow
  have ho:q % z<(es.f (q / z)).length:=by rw [hl];exact Nat.mod_lt _ hz0
  have e1:=h8 _ _ (q % z) hrow ho
  rw [Nat.div_add_mod' q z] at e1
  rw [e1] at hv';cases hv'
  exact (h9 _ _ (q % z) _ hrow (List.getElem?_eq_getElem ho)).one
 unfold CallsTo
 rw [hent]
 rw [hargs]
 refine Calls.mono (hc w g es.n cap i j cur h1 h2 h3 h4 hij hj hone) fun ed w' ⟨d1,cur',d2,d3,d4,d5,d6⟩=>⟨_,d1,_,rfl,?_⟩
 rw [<- hargs]
 refine rel_ret hr (N:=N0 0) ?_ (fun b hb=>?_) (Fr.oth d6 (hown g h5).2.2)
 ·have hG:∀ {k o:Nat} {row:List CV} {x:CV},es.l[k]?=some row->row[o]?=some x->Rep P w' I x (us k o) (G k o):=fun {k o row x} hk ho =>
   (h9 k row o x hk ho).frame (fun b hb=>by
    rcases hb with hb | hb
    ·exact d6.block b (hr.ro b hb) (by rintro rfl;exact h6 hb)
    ·obtain ⟨g1,g2⟩:=h10 k o b hb
     exact d6.block b (hown b g1).1 g2)
  rw [show es.n-(j-i)=(delR es i j).n from rfl]
  refine .ow (fun k o=>us (if k<i then k else k+(j-i)) o) (fun k o=>G (if k<i then k else k+(j-i)) o) d2 (by rw [d3,h2,hz]) (by simp only [delR];omega) h4 h5 h6 (fun k row hk=>?_) (fun k row o hk ho=>?_) (fun k row o x hk ho=>?_) (fun k o b hb=>h10 _ _ _ hb) (fun k o k' o' b hb hb'=>?_)
  ·rw [hz];exact h7 _ _ (delR_l es hij hj hk).2
  ·rw [hz]
   obtain ⟨hlt,hk⟩:=delR_l es hij hj hk
   have e1:=h8 _ _ o hk ho
   have hl:=h7 _ _ hk
   have hoz:o<z:=by omega
   by_cases hki:k<i
   ·simp only [hki,if_true] at e1 ⊢
    rw [d4 _ (by have:(k+1)*z<=i*z:=Nat.mul_le_mul_right z hki;rw [Nat.succ_mul] at this;omega)]
    exact e1
   ·simp only [hki,if_false] at e1 ⊢
    rw [d5 _ (by have:i*z<=k*z:=Nat.mul_le_mul_right z (by omega);omega) (by have:(k+1)*z<=(es.n-(j-i))*z:=Nat.mul_le_mul_right z hlt;rw [Nat.succ_mul] at this;omega)]
    rw [show k*z+o+(j-i)*z=(k+(j-i))*z+o by rw [Nat.add_mul];omega]
    exact e1
  ·exact hG (delR_l es hij hj hk).2 ho
  ·obtain ⟨q1,q2⟩:=h11 _ _ _ _ b hb hb'
   refine ⟨?_,q2⟩
   split at q1<;>split at q1<;>omega
 ·obtain ⟨o1,o2,o3⟩:=hown b hb
  exact ⟨Nat.lt_of_lt_of_le o1 d6.size,o2,.inr o3⟩
end
end Go.Proofs.AI
namespace Go.Proofs.AI
open Go.RowKit Go.Proofs Go.Lib Go.Shelf
set_option linter.unusedVariables false
set_option linter.unusedSimpArgs false
set_option maxRecDepth 100000
theorem isAgg_of {P:Program} {t:TypeId} {d:TypeDesc} (h:P.underlying t=some d) (w:World):(isAgg t).run P w=.ok d.isRow w:=by
 cases d<;>simp [isAgg,run_underlying h,TypeDesc.isRow]
theorem sizeOf_of {P:Program} {t:TypeId} {i:TypeInfo} (h:P.info? t=some i) (w:World):(Go.sizeOf t).run P w=.ok i.size w:=by
 simp [Go.sizeOf,typeInfo,h,Sem.run]
theorem zero_of {P:Program} {t:TypeId} {i:TypeInfo} {z:Value} (h:P.info? t=some i) (hz:i.zero=some z) (w:World):(zeroValue t).run P w=.ok z w:=by
 simp [zeroValue,typeInfo,h,hz,Sem.run]
end Go.Proofs.AI
namespace Go.Proofs.AI
open Go.RowKit Go.Proofs
set_option linter.unusedVariables false
set_option linter.unusedSimpArgs false
set_option maxRecDepth 100000
theorem ent_of {P:Program} {f:FuncId} {fn:Func} {c:Code} (hf:P.funcs[f]?=some fn) (hb:fn.body=some c) (hn:(fn.name=="runtime.NumGoroutine")=false) (args:Array Value) (w:World):(callFunc f args).run P w=.ok (.enter f args) w:=by
 have hn':fn.name≠"runtime.NumGoroutine":=by simpa using hn
 simp [callFunc,program,Sem.run,hf,hn',hb]
theorem typ_del {C α:Type} (d:α) (g:α->List C) (xs:List α) (i:Nat) (hi:i<xs.length):delR (typ d g xs) i (i+1)=typ d g (xs.eraseIdx i):=by
 simp only [delR,typ,List.length_eraseIdx,if_pos hi]
 congr 1
 ·omega
 ·funext k
  simp only [List.getD_eq_getElem?_getD,List.getElem?_eraseIdx]
  split
  ·rfl
  ·rw [show k+(i+1-i)=k+1 by omega]
end Go.Proofs.AI
namespace Go.Proofs.AI
open Go.RowKit Go.Proofs
set_option linter.unusedVariables false
set_option linter.unusedSimpArgs false
set_option maxRecDepth 100000
theorem tl_eq {a b:ByteArray}:(a.toList==b.toList)=decide (a=b):=by
 rw [Bool.eq_iff_iff,decide_eq_true_eq]
 exact eqB_iff' (a:=a) (b:=b)
theorem len_ne {m n:Nat} (h:((m:Int) != (n:Int))=false):m=n:=by
 simp [bne] at h;omega
end Go.Proofs.AI
namespace Go.Proofs.AI
open Go.RowKit Go.Proofs
set_option linter.unusedVariables false
set_option linter.unusedSimpArgs false
set_option maxRecDepth 100000
theorem wrt_ext {a b:Wrt} (h1:a.key=b.key) (h2:a.del=b.del) (h3:a.val=b.val):a=b:=by cases a;cases b;simp_all
theorem laws_jaTexts_ok (a:List ByteArray) (b:List ByteArray):FunOK Tryz.prog 170 2 [] [(0,k1 (sS a)),(1,k1 (sS b))] (·=[(2,kB (decide (a=b)))]):=by
 refine fun_to (E:=⟨tab,ctOf [],26,[],[(0,[0,1]),(1,[0,1,10]),(2,[4]),(3,[0,1,5]),(4,[0,1,5,14]),(5,[0,1,5]),(6,[0,1,5,25]),(7,[4]),(8,[4])],[(0,⟨Nat,fun x=>[(0,(k1 (.sh 9 (typ ByteArray.empty eS a)))),(1,(k1 (.sh 9 (typ ByteArray.empty eS b)))),(5,(k1 (.n .i64 (x:Int))))]⟩)],[],[],[]⟩) tab_ok mixed Tryz.func170 rfl Tryz.ntmps170 (rvs:=[.tmp 4]) Tryz.results170 rfl fun hl=>?_
 refine cast (show ((((zi a.length) != zi b.length)=true->false=decide (a=b))/\(((zi a.length) != zi b.length)=false->∃ (pre:Nat->Prop),∃ (μ:Nat->Nat),∃ (x0:Nat),(q_S a a/\q_S b b/\i_0=zi x0)/\pre x0/\∀ (x:Nat),pre x->(decide (zi x<zi a.length)=true->(i_0<=zi x/\zi x<zi a.length)/\(i_0<=zi x/\zi x<zi b.length)/\((!(g_ByteArray a x).toList==(g_ByteArray b x).toList)=true->false=decide (a=b))/\((!(g_ByteArray a x).toList==(g_ByteArray b x).toList)=false->∃ (y:Nat),(q_S a a/\q_S b b/\wr_ ((zi x)+i_1)=zi y)/\pre y/\μ y<μ x))/\(decide (zi x<zi a.length)=false->true=decide (a=b))))=_ by kernel_rfl) ?_
 delta i_0 i_1 wr_ zi t_S q_S g_ByteArray
 have hx:a.length<=9223372036854775807:=hl.1 _ (List.mem_singleton.2 rfl)
 simp only [zza,true_and,and_true,and_self,ne_eq,cI_app,cWrtO_app,cWrtS_app,cWrtO_1,cItemO_1,opr_ex,zcast,frz_nil,nil_map]
 refine ⟨fun h=>?_,fun h=>?_⟩
 ·exact (decide_eq_false fun he=>h (by rw [he])).symm
 have hlen:=len_ne h
 refine ⟨fun i=>i<=a.length/\∀ j,j<i->a.getD j ByteArray.empty=b.getD j ByteArray.empty,⟨by omega,fun j hj=>absurd hj (Nat.not_lt_zero _)⟩,fun i=>a.length-i,fun i hp=>?_⟩
 obtain ⟨h1,h2⟩:=hp
 refine ⟨fun hlt=>⟨by omega,hlt,by omega,by omega,fun e=>?_,fun e=>⟨i+1,wrapN (by omega),⟨by omega,below_succ h2 ?_⟩,by simp only;omega⟩⟩,fun hge=>?_⟩
 ·rw [tl_eq] at e
  have e:¬ a.getD i ByteArray.empty=b.getD i ByteArray.empty:=by simpa using e
  exact (decide_eq_false fun he=>e (by rw [he])).symm
 ·rw [tl_eq] at e
  simpa using e
 ·exact (decide_eq_true (ext_getD (d:=ByteArray.empty) hlen fun j hj=>h2 j (by omega))).symm
def laws_jaTexts_c:Con Tryz.prog:=con0 [.lend,.lend] fun b:List ByteArray×List ByteArray=>laws_jaTexts_ok (b.1) (b.2)
theorem laws_jaWrites_ok (a:List Wrt) (b:List Wrt):FunOK Tryz.prog 171 2 [] [(0,k1 (sWrts a)),(1,k1 (sWrts b))] (·=[(2,kB (decide (a=b)))]):=by
 refine fun_to (E:=⟨tab,ctOf [laws_jaInts_c],55,[],[(0,[0,1]),(1,[0,1,10]),(2,[4]),(3,[0,1,5]),(4,[0,1,5,14]),(5,[0,1,5]),(6,[0,1,5,54]),(7,[4]),(8,[4])],[(0,⟨Nat,fun x=>[(0,(k1 (.sh 94 (typ dWrt eWrtS a)))),(1,(k1 (.sh 94 (typ dWrt eWrtS b)))),(5,(k1 (.n .i64 (x:Int))))]⟩)],[],[],[]⟩) tab_ok mixed Tryz.func171 rfl Tryz.ntmps171 (rvs:=[.tmp 4]) Tryz.results171 rfl fun hl=>?_
 refine cast (show ((((zi a.length) != zi b.length)=true->false=decide (a=b))/\(((zi a.length) != zi b.length)=false->∃ (pre:Nat->Prop),∃ (μ:Nat->Nat),∃ (x0:Nat),(q_c a a/\q_c b b/\i_0=zi x0)/\pre x0/\(∀ (x:Nat),let k_2:Prop:=i_0<=zi x/\zi x<zi a.length;let k_1:Prop:=i_0<=zi x/\zi x<zi b.length;pre x->(decide (zi x<zi a.length)=true->k_2/\k_1/\((!(g_Wrt a x).key.toList==(g_Wrt b x).key.toList)=false->k_2/\k_1/\((if true=true then !(g_Wrt a x).del==(g_Wrt b x).del else (g_Wrt a x).del==(g_Wrt b x).del)=false->k_2/\k_1/\(∃ (b_1:y_10),(q_I (g_Wrt a x).val b_1.1/\q_I (g_Wrt b x).val b_1.2)/\((!decide (b_1.1=b_1.2))=true->false=decide (a=b))/\((!decide (b_1.1=b_1.2))=false->∃ (y:Nat),(q_c a a/\q_c b b/\wr_ ((zi x)+i_1)=zi y)/\pre y/\μ y<μ x)))/\((if true=true then !(g_Wrt a x).del==(g_Wrt b x).del else (g_Wrt a x).del==(g_Wrt b x).del)=true->false=decide (a=b)))/\((!(g_Wrt a x).key.toList==(g_Wrt b x).key.toList)=true->false=decide (a=b)))/\(decide (zi x<zi a.length)=false->true=decide (a=b)))))=_ by kernel_rfl) ?_
 delta i_0 i_1 wr_ zi t_I q_I g_Wrt t_c q_c y_10
 have hx:a.length<=9223372036854775807:=hl.1 _ (List.mem_singleton.2 rfl)
 simp only [zza,true_and,and_true,and_self,ne_eq,cI_app,cWrtO_app,cWrtS_app,cWrtO_1,cItemO_1,opr_ex,zcast,frz_nil,nil_map]
 refine ⟨fun h=>?_,fun h=>?_⟩
 ·exact (decide_eq_false fun he=>h (by rw [he])).symm
 have hlen:=len_ne h
 simp only [i1,if_true]
 refine ⟨fun i=>i<=a.length/\∀ j,j<i->a.getD j dWrt=b.getD j dWrt,⟨by omega,fun j hj=>absurd hj (Nat.not_lt_zero _)⟩,fun i=>a.length-i,fun i hp=>?_⟩
 obtain ⟨h1,h2⟩:=hp
 refine ⟨fun hlt=>⟨by omega,hlt,by omega,by omega,fun e1=>⟨by omega,hlt,by omega,by omega,fun e2=>⟨by omega,hlt,by omega,by omega,fun e3=>?_,fun e3=>⟨i+1,wrapN (by omega),⟨by omega,below_succ h2 ?_⟩,by simp only;omega⟩⟩,fun e2=>?_⟩,fun e1=>?_⟩,fun hge=>?_⟩
 ·have e:¬ (a.getD i dWrt).val=(b.getD i dWrt).val:=by simpa using e3
  exact (decide_eq_false fun he=>e (by rw [he])).symm
 ·rw [tl_eq] at e1
  exact wrt_ext (by simpa using e1) (by simpa using e2) (by simpa using e3)
 ·have e:¬ (a.getD i dWrt).del=(b.getD i dWrt).del:=by simpa using e2
  exact (decide_eq_false fun he=>e (by rw [he])).symm
 ·rw [tl_eq] at e1
  have e:¬ (a.getD i dWrt).key=(b.getD i dWrt).key:=by simpa using e1
  exact (decide_eq_false fun he=>e (by rw [he])).symm
 ·exact (decide_eq_true (ext_getD (d:=dWrt) hlen fun j hj=>h2 j (by omega))).symm
def laws_jaWrites_c:Con Tryz.prog:=con0 [.lend,.lend] fun b:List Wrt×List Wrt=>laws_jaWrites_ok (b.1) (b.2)
end Go.Proofs.AI
namespace Go.Proofs.AI
open Go.RowKit Go.Proofs
set_option linter.unusedVariables false
set_option linter.unusedSimpArgs false
theorem FunOK.sh0 {P:Program} {f:FuncId} {post:L->Prop} {e:TypeId} {es:Rows CV} (h0:es.n=0)
  (h:∀ (A:Option Addr) (c:Nat),FunOK P f 1 [] [(0,⟨.one,[.c (.vl (.slice A 0 c))],[]⟩)] post):FunOK P f 1 [] [(0,⟨.one,[.c (.sh e es)],[]⟩)] post:=by
 intro F0 I0 args w hs ⟨I,U,B,F,hr⟩
 obtain ⟨k1,hroot,⟨N,n1,n2,n3⟩,k4⟩:=hr.key 0 ⟨.one,[.c (.sh e es)],[]⟩ (by simp [mk,up])
 have hrep:Rep P w I (.sh e es) (U 0 0) (N 0):=n1 0 _ rfl
 obtain ⟨A,c,us,hv,_⟩:=hrep.sh_inv
 rw [h0] at hv
 refine h A c F0 I0 args w hs ⟨I,U,B,F,{ hr with key:=fun t K hK=>?_,may:=fun t b hb=>?_ }⟩
 ·simp only [mk,up] at hK
  split at hK
  ·rename_i ht
   subst ht;cases hK
   refine ⟨k1,hroot.any rfl rfl,⟨N,fun o x hx=>?_,n2,fun o b hb=>⟨(n3 o b hb).1,fun q=>by cases q.1⟩⟩,fun b hb=>by cases hb.1⟩
   cases o with
   | zero =>
    simp at hx;subst hx
    show Rep P w I (.vl (.slice A 0 c)) (U 0 0) (N 0)
    rw [hv];exact .vl rfl
   | succ o=>simp at hx
  ·cases hK
 ·rcases hr.may t b hb with h1 | h1 | ⟨K,h1,h2,_⟩
  ·exact .inl h1
  ·exact .inr (.inl h1)
  ·simp only [mk,up] at h1
   split at h1
   ·cases h1;cases h2.1
   ·cases h1
end Go.Proofs.AI
namespace Go.Proofs.AI
open Go.RowKit Go.Proofs
set_option linter.unusedVariables false
set_option linter.unusedSimpArgs false
set_option maxRecDepth 100000
theorem CloneSz_ok (A:Option Addr) (q:Nat):FunOK Tryz.prog 172 1 [] [(0,k1 (.vl (.slice A 0 q)))] (·=[(1,k1 (oS []))]):=by
 refine fun_to (E:=⟨tab,ctOf [],8,[],[(0,[0,5,6,7]),(1,[0,4,5,6,7]),(2,[0,2,5,6,7]),(3,[0,2,5,6,7])],[],[],[],[]⟩) tab_ok mixed Tryz.func172 rfl Tryz.ntmps172 (rvs:=[.tmp 2]) Tryz.results172 rfl fun hl=>?_
 refine cast (show (True/\((if false=true then !A.isNone else A.isNone)=true->n_0=n_0)/\((if false=true then !A.isNone else A.isNone)=false->(n_0+n_0)*n_16<=n_140737488355328/\cnRs (appR (raw []) nilR)=t_S []))=_ by kernel_rfl) ?_
 delta n_0 n_140737488355328 t_S n_16
 simp only [zza,zzb,true_and,and_true,and_self,ne_eq,cI_app,cWrtO_app,cWrtS_app,cWrtO_1,cItemO_1,opr_ex,zcast,frz_nil,nil_map,Option.getD_none,Option.getD_some]
 cases A<;>simp
theorem CloneSp_ok (xs:List ByteArray) (hpre:0<xs.length/\xs.length<=1000):FunOK Tryz.prog 172 1 [] [(0,k1 (sS xs))] (·=[(1,k1 (oS xs))]):=by
 refine fun_to (E:=⟨tab,ctOf [],8,[],[(0,[0,5,6,7]),(1,[0,4,5,6,7]),(2,[0,2,5,6,7]),(3,[0,2,5,6,7])],[],[],[],[]⟩) tab_ok mixed Tryz.func172 rfl Tryz.ntmps172 (rvs:=[.tmp 2]) Tryz.results172 rfl fun hl=>?_
 refine cast (show (n_0<xs.length/\((if false=true then true else false)=true->xs.length=n_0)/\((if false=true then true else false)=false->(n_0+xs.length)*n_16<=n_140737488355328/\cnRs (appR (raw []) (typ ByteArray.empty eS xs))=t_S xs))=_ by kernel_rfl) ?_
 delta n_0 n_140737488355328 t_S n_16
 simp only [zza,zzb,true_and,and_true,and_self,ne_eq,cI_app,cWrtO_app,cWrtS_app,cWrtO_1,cItemO_1,opr_ex,zcast,frz_nil,nil_map,Option.getD_none,Option.getD_some]
 refine ⟨hpre.1,fun h=>by simp at h,fun _=>⟨by omega,?_⟩⟩
 simp
theorem CloneIz_ok (A:Option Addr) (q:Nat):FunOK Tryz.prog 117 1 [] [(0,k1 (.vl (.slice A 0 q)))] (·=[(1,k1 (oI []))]):=by
 refine fun_to (E:=⟨tab,ctOf [],8,[],[(0,[0,5,6,7]),(1,[0,4,5,6,7]),(2,[0,2,5,6,7]),(3,[0,2,5,6,7])],[],[],[],[]⟩) tab_ok mixed Tryz.func117 rfl Tryz.ntmps117 (rvs:=[.tmp 2]) Tryz.results117 rfl fun hl=>?_
 refine cast (show (True/\((if false=true then !A.isNone else A.isNone)=true->n_0=n_0)/\((if false=true then !A.isNone else A.isNone)=false->(n_0+n_0)*n_8<=n_140737488355328/\cnRs (appR (raw []) nilR)=t_I []))=_ by kernel_rfl) ?_
 delta t_I n_0 n_8 n_140737488355328
 simp only [zza,zzb,true_and,and_true,and_self,ne_eq,cI_app,cWrtO_app,cWrtS_app,cWrtO_1,cItemO_1,opr_ex,zcast,frz_nil,nil_map,Option.getD_none,Option.getD_some]
 cases A<;>simp
theorem CloneS_ok (xs:List ByteArray) (hpre:xs.length<=1000):FunOK Tryz.prog 172 1 [] [(0,k1 (sS xs))] (·=[(1,k1 (oS xs))]):=by
 rcases Nat.eq_zero_or_pos xs.length with h | h
 ·obtain rfl:=List.length_eq_zero_iff.1 h
  exact FunOK.sh0 rfl CloneSz_ok
 ·exact CloneSp_ok xs ⟨h,hpre⟩
def CloneS_c:Con Tryz.prog:=conP [.lend] fun (b:List ByteArray) h=>CloneS_ok b h
theorem CloneI_ok (xs:List Int) (hpre:xs.length<=1000):FunOK Tryz.prog 117 1 [] [(0,k1 (sI xs))] (·=[(1,k1 (oI xs))]):=by
 rcases Nat.eq_zero_or_pos xs.length with h | h
 ·obtain rfl:=List.length_eq_zero_iff.1 h
  exact FunOK.sh0 rfl CloneIz_ok
 ·exact slices_Clone_int_ok xs ⟨h,hpre⟩
def CloneI_c:Con Tryz.prog:=conP [.lend] fun (b:List Int) h=>CloneI_ok b h
theorem impl_writesOf_ok (ws:List Wrt) (hpre:ws.length<=1000/\∀ w∈ws,w.val.length<=1000):FunOK Tryz.prog 173 1 [] [(0,k1 (sWrts ws))] (·=[(1,k1 (oWrts ws))]):=by
 refine fun_to (E:=⟨tab,ctOf [CloneI_c],25,[],[(0,[0,3,12,14,16,19,20,21,22]),(1,[0,3,12,14,16,19,20,21,22]),(2,[0,3,6,7,8,12,14,16,19,20,21,22]),(3,[0,3,6,7,8,9,12,14,16,19,20,21,22]),(4,[0,3,5,6,7,8,12,14,16,19,20,21,22]),(5,[0,3,6,7,8,12,14,16,19,20,21,22]),(6,[0,3,6,7,8,12,14,16,19,20,21,22]),(7,[2,3,12,14,16,19,20,21,22,24])],[(0,⟨List Wrt×Nat,fun x=>[(0,(k1 (.sh 94 (typ dWrt eWrtS ws)))),(3,(k1 (oWrts (x.1)))),(6,(k1 (.sh 94 (typ dWrt eWrtS ws)))),(7,(k1 (.n .i64 ((↑ws.length:Int))))),(8,(k1 (.n .i64 (x.2:Int))))]⟩)],[(7,[(1000000,[])])],[],[]⟩) tab_ok mixed Tryz.func173 rfl Tryz.ntmps173 (rvs:=[.tmp 2]) Tryz.results173 rfl fun hl=>?_
 refine cast (show (∃ (pre:List Wrt×Nat->Prop),∃ (μ:List Wrt×Nat->Nat),∃ (x0:List Wrt×Nat),(q_c ws ws/\x0.1.length=n_0/\q_c ws ws/\zi ws.length=zi ws.length/\i_0=zi x0.2)/\pre x0/\∀ (x:List Wrt×Nat),pre x->(decide (zi x.2<zi ws.length)=true->(i_0<=zi x.2/\zi x.2<zi ws.length)/\∃ (b:List Int),q_I (g_Wrt ws x.2).val b/\b.length<=n_1000/\(x.1.length+n_1)*n_48<=n_140737488355328/\∃ (y:List Wrt×Nat),(q_c ws ws/\cnRs (appR (typ dWrt eWrtO x.1) (raw [[CV.s (g_Wrt ws x.2).key,CV.b (g_Wrt ws x.2).del,CV.ow n_3 (typ i_0 eI b)]]))=t_d y.1/\q_c ws ws/\zi ws.length=zi ws.length/\wr_ ((zi x.2)+i_1)=zi y.2)/\pre y/\μ y<μ x)/\(decide (zi x.2<zi ws.length)=false->q_d x.1 ws))=_ by kernel_rfl) ?_
 delta i_0 i_1 wr_ zi t_I q_I n_0 n_140737488355328 n_1 n_3 g_Wrt t_c q_c n_1000 t_d q_d n_48
 obtain ⟨p1,p2⟩:=hpre
 simp only [zza,zzb,true_and,and_true,and_self,ne_eq,cI_app,cWrtO_app,cWrtS_app,cWrtO_1,cItemO_1,opr_ex,zcast,frz_nil,nil_map,Option.getD_none,Option.getD_some]
 refine ⟨fun x=>x.2<=ws.length/\x.1=ws.take x.2,fun x=>ws.length-x.2,[],rfl,⟨by omega,rfl⟩,fun a i hp=>?_⟩
 obtain ⟨h1,h2⟩:=hp
 simp only at h1 h2
 subst h2
 refine ⟨fun hlt=>?_,fun hge=>?_⟩
 ·have hm:ws.getD i dWrt∈ws:=by rw [getD_lt (by omega)];exact List.getElem_mem _
  exact ⟨by omega,hlt,p2 _ hm,by rw [List.length_take];omega,i+1,wrapN (by omega),⟨by simp only;omega,(take_succ (d:=dWrt) (by omega)).symm⟩,by simp only;omega⟩
 ·have:i=ws.length:=by omega
  subst this
  simp
def impl_writesOf_c:Con Tryz.prog:=⟨173,1,[.lend],[],List Wrt,some fun b=>b.length<=1000/\∀ w∈b,w.val.length<=1000,fun b=>[(0,k1 (sWrts b))],fun b=>[(1,k1 (oWrts b))],[],fun b h=>impl_writesOf_ok b h⟩
theorem impl_LogNote_copied_ok (n:Note) (hpre:smallN n):FunOK Tryz.prog 132 1 [] [(0,kNoteS n)] (·=[(1,kNoteO n)]):=by
 refine fun_to (E:=⟨tab,ctOf [CloneS_c,impl_writesOf_c],14,[],[(0,[1,2,4,6,9,12,13]),(1,[2,4,6,9,12,13])],[],[],[],[]⟩) tab_ok mixed Tryz.func132 rfl Tryz.ntmps132 (rvs:=[.cell 2 72]) Tryz.results132 rfl fun hl=>?_
 refine cast (show (∃ (b:List ByteArray),q_S n.locks b/\b.length<=n_1000/\∃ (b_1:List Wrt),q_c n.writes b_1/\(b_1.length<=n_1000/\∀ (w:Wrt),w∈b_1->w.val.length<=n_1000)/\n.kind=n.kind/\n.tx=n.tx/\q_S b n.locks/\q_d b_1 n.writes)=_ by kernel_rfl) ?_
 delta t_c q_c n_1000 t_S t_d q_S q_d
 obtain ⟨p1,p2,p3⟩:=hpre
 simp only [zza,zzb,true_and,and_true,and_self,ne_eq,cI_app,cWrtO_app,cWrtS_app,cWrtO_1,cItemO_1,opr_ex,zcast,frz_nil,nil_map,Option.getD_none,Option.getD_some]
 exact ⟨p1,p2,p3⟩
def impl_LogNote_copied_c:Con Tryz.prog:=conP [.lend] fun (b:Note) h=>impl_LogNote_copied_ok b h
theorem impl_LogDisk_copied_ok (d:Disk) (hpre:smallD d):FunOK Tryz.prog 93 1 [] [(0,kDiskS d)] (·=[(1,kDiskO d)]):=by
 refine fun_to (E:=⟨tab,ctOf [impl_LogNote_copied_c],25,[],[(0,[1,2,3,24]),(1,[1,2,3,24]),(2,[1,2,3,9,10,11,12,24]),(3,[1,2,3,9,10,11,12,13,24]),(4,[1,2,3,5,9,10,11,12,24]),(5,[1,2,3,9,10,11,12,24]),(6,[1,2,3,9,10,11,12,24]),(7,[2,3,24])],[(0,⟨List Note×Nat,fun x=>[(1,⟨.box,[.c (.sh 72 (typ dNote eNoteS d.notes)),.c (.n .i64 d.safe)],[]⟩),(2,⟨.box,[.c (.ow 72 nilR),.c (.n .i64 ((0:Int)))],[]⟩),(3,⟨.box,[.c (oNotes (x.1)),.c (.n .i64 d.safe)],[]⟩),(9,⟨.one,[.pr 1 0 0],[]⟩),(10,(k1 (.sh 72 (typ dNote eNoteS d.notes)))),(11,(k1 (.n .i64 ((↑d.notes.length:Int))))),(12,(k1 (.n .i64 (x.2:Int))))]⟩)],[],[],[]⟩) tab_ok mixed Tryz.func93 rfl Tryz.ntmps93 (rvs:=[.cell 2 25]) Tryz.results93 rfl fun hl=>?_
 refine cast (show (let k_3:Prop:=n_1=n_1/\n_0=n_0/\true=true;let k_2:Prop:=q_e d.notes d.notes/\d.safe=d.safe;let k_1:Prop:=zi d.notes.length=zi d.notes.length;∃ (pre:List Note×Nat->Prop),∃ (μ:List Note×Nat->Nat),∃ (x0:List Note×Nat),(k_2/\(cnRs nilR=cnRs nilR/\i_0=i_0)/\(cnRs nilR=t_f x0.1/\d.safe=d.safe)/\k_3/\q_e d.notes d.notes/\k_1/\i_0=zi x0.2)/\pre x0/\(∀ (x:List Note×Nat),pre x->(decide (zi x.2<zi d.notes.length)=true->(i_0<=zi x.2/\zi x.2<zi d.notes.length)/\(∃ (b:Note),((g_Note d.notes x.2).kind=b.kind/\(g_Note d.notes x.2).tx=b.tx/\q_S (g_Note d.notes x.2).locks b.locks/\q_c (g_Note d.notes x.2).writes b.writes)/\smallN b/\(x.1.length+n_1)*n_64<=n_140737488355328/\(∃ (y:List Note×Nat),(k_2/\(cnRs nilR=cnRs nilR/\i_0=i_0)/\(cnRs (appR (typ dNote eNoteO x.1) (raw [[cn_ b.kind,cn_ b.tx,CV.ow n_9 (typ ByteArray.empty eS b.locks),CV.ow n_94 (typ dWrt eWrtO b.writes)]]))=t_f y.1/\d.safe=d.safe)/\k_3/\q_e d.notes d.notes/\k_1/\wr_ ((zi x.2)+i_1)=zi y.2)/\pre y/\μ y<μ x)))/\(decide (zi x.2<zi d.notes.length)=false->q_f x.1 d.notes/\d.safe=d.safe)))=_ by kernel_rfl) ?_
 delta i_0 i_1 wr_ zi n_0 n_140737488355328 n_1 t_c q_c cn_ t_S q_S g_Note t_e q_e t_f q_f n_64 n_9 n_94
 obtain ⟨p1,p2⟩:=hpre
 simp only [zza,zzb,true_and,and_true,and_self,ne_eq,cI_app,cWrtO_app,cWrtS_app,cWrtO_1,cItemO_1,opr_ex,zcast,frz_nil,nil_map,Option.getD_none,Option.getD_some]
 refine ⟨fun x=>x.2<=d.notes.length/\x.1=d.notes.take x.2,⟨by omega,rfl⟩,fun x=>d.notes.length-x.2,fun a i hp=>?_⟩
 obtain ⟨h1,h2⟩:=hp
 simp only at h1 h2
 subst h2
 refine ⟨fun hlt=>?_,fun hge=>?_⟩
 ·have hm:d.notes.getD i dNote∈d.notes:=by rw [getD_lt (by omega)];exact List.getElem_mem _
  refine ⟨by omega,hlt,p2 _ hm,by rw [List.length_take];omega,d.notes.take (i+1),?_,i+1,wrapN (by omega),⟨by simp only;omega,rfl⟩,by simp only;omega⟩
  rw [take_succ (d:=dNote) (by omega)]
  simp
 ·have:i=d.notes.length:=by omega
  subst this
  simp
def impl_LogDisk_copied_c:Con Tryz.prog:=conP [.lend] fun (b:Disk) h=>impl_LogDisk_copied_ok b h
end Go.Proofs.AI
namespace Go.Proofs.AI
open Go.RowKit
set_option linter.unusedVariables false
set_option linter.unusedSimpArgs false
def eqFs2 (P:Program):List CK->Nat->List Field->Bool
 | ks,_,[]=>ks.isEmpty
 | ks,j,f::fs=>(f.name != "_")&&f.offset==j&&match P.underlying f.type with
  | some (.struct gs)=>!P.stoodInHeld f.type&&decide (gs.size<=ks.length)&&decide ((P.info? f.type).map (·.size)=some gs.size)&&eqFs P (ks.take gs.size) 0 gs.toList&&eqFs2 P (ks.drop gs.size) (j+gs.size) fs
  | u=>match ks with
   | k::ks=>ckOf u k&&eqFs2 P ks (j+1) fs
   | []=>false
theorem areCK_app:∀ {ks ks':List CK} {xs:List Value},areCK (ks++ks') xs->areCK ks (xs.take ks.length)/\areCK ks' (xs.drop ks.length)
 | [],_,_,h=>⟨trivial,h⟩
 | _::_,_,[],h=>h.elim
 | _::ks,_,_::xs,h=>⟨⟨h.1,(areCK_app h.2).1⟩,(areCK_app h.2).2⟩
theorem eqL_app:∀ {a b:List Value} {c d:List Value},a.length=b.length->c.length=d.length->eqL (a++c) (b++d)=(eqL a b&&eqL c d)
 | [],[],c,d,_,_=>by simp [eqL]
 | x::a,y::b,c,d,h,h2=>by
  have h:a.length=b.length:=by simpa using h
  rw [List.cons_append,List.cons_append,eqL_cons (by simp [h,h2]),eqL_cons h,eqL_app h h2,Bool.and_assoc]
theorem run_eqFields2 {P:Program} {w:World} {xs ys:Array Value} (d:Nat):∀ (fs:List Field) (ks:List CK) (j:Nat) (a b:List Value),eqFs2 P ks j fs=true->xs.toList.drop j=a->ys.toList.drop j=b->areCK ks a->areCK ks b ->
  (Op.eqFields (d+2) xs ys fs).run P w=.ok (eqL a b) w
 | [],ks,j,a,b,h,hx,hy,ha,hb=>by
  have hk:ks=[]:=by simpa [eqFs2] using h
  subst hk
  cases a with
  | cons x a=>exact ha.elim
  | nil=>cases b with
   | cons y b=>exact hb.elim
   | nil=>simp [Op.eqFields,eqL]
 | f::fs,ks,j,a,b,h,hx,hy,ha,hb=>by
  simp only [eqFs2,Bool.and_eq_true,bne_iff_ne,beq_iff_eq] at h
  obtain ⟨⟨h1,h2⟩,h3⟩:=h
  split at h3
  ·rename_i gs hu
   simp only [Bool.and_eq_true,Bool.not_eq_true',decide_eq_true_eq] at h3
   obtain ⟨⟨⟨⟨g1,g2⟩,g3⟩,g4⟩,g5⟩:=h3
   obtain ⟨inf,e1,e2⟩:=Option.map_eq_some_iff.1 g3
   have hl:(ks.take gs.size).length=gs.size:=by rw [List.length_take];omega
   have hka:areCK (ks.take gs.size++ks.drop gs.size) a:=by rw [List.take_append_drop];exact ha
   have hkb:areCK (ks.take gs.size++ks.drop gs.size) b:=by rw [List.take_append_drop];exact hb
   obtain ⟨a1,a2⟩:=areCK_app hka
   obtain ⟨b1,b2⟩:=areCK_app hkb
   rw [hl] at a1 a2 b1 b2
   have hp:∀ (zs:Array Value) (c:List Value),zs.toList.drop j=c->(part f.type zs f.offset).run P w=.ok (.agg (zs.extract j (j+gs.size))) w:=fun zs c _=>by
    have hs:(sizeOf f.type).run P w=.ok gs.size w:=by simp [sizeOf,typeInfo,e1,e2]
    simp [part,isAgg,run_underlying hu,TypeDesc.isRow,h2,hs]
   have hxs:(xs.extract j (j+gs.size)).toList=a.take gs.size:=by simp [<- hx]
   have hys:(ys.extract j (j+gs.size)).toList=b.take gs.size:=by simp [<- hy]
   have hf:P.fieldsOf f.type=gs:=by simp [Program.fieldsOf,hu]
   have he:(Op.equalIn (d+2) f.type (.agg (xs.extract j (j+gs.size))) (.agg (ys.extract j (j+gs.size)))).run P w=.ok (eqL (a.take gs.size) (b.take gs.size)) w:=by
    rw [run_equalIn_struct w (d+1) f.type _ _ (by rw [hf];exact hu) g1,hf]
    exact run_eqFields d _ 0 gs.toList _ _ g4 (by simpa using hxs) (by simpa using hys) a1 b1
   have la:=areCK_length a1
   have lb:=areCK_length b1
   have la2:=areCK_length a2
   have lb2:=areCK_length b2
   have hab:eqL a b=(eqL (a.take gs.size) (b.take gs.size)&&eqL (a.drop gs.size) (b.drop gs.size)):=by
    rw [<- eqL_app (by omega) (by omega),List.take_append_drop,List.take_append_drop]
   rw [hab]
   simp only [Op.eqFields,h1,ne_eq,not_false_eq_true,if_true,Sem.run_bind,hp xs a hx,hp ys b hy,Result.andThen_ok,he]
   cases hc:eqL (a.take gs.size) (b.take gs.size)
   ·simp
   ·simpa using run_eqFields2 d fs (ks.drop gs.size) (j+gs.size) (a.drop gs.size) (b.drop gs.size) g5 (by rw [<- hx,List.drop_drop]) (by rw [<- hy,List.drop_drop]) a2 b2
  ·cases ks with
   | nil=>cases h3
   | cons k ks =>
    simp only [Bool.and_eq_true] at h3
    obtain ⟨h3,h4⟩:=h3
    cases a with
    | nil=>exact ha.elim
    | cons x a=>cases b with
     | nil=>exact hb.elim
     | cons y b =>
      have gx:xs[j]?=some x:=by
       have:=congrArg (·[0]?) hx
       simpa using this
      have gy:ys[j]?=some y:=by
       have:=congrArg (·[0]?) hy
       simpa using this
      have dx:xs.toList.drop (j+1)=a:=by rw [<- List.drop_drop,hx]<;>rfl
      have dy:ys.toList.drop (j+1)=b:=by rw [<- List.drop_drop,hy]<;>rfl
      have hl:a.length=b.length:=by rw [<- areCK_length ha.2,<- areCK_length hb.2]
      rw [eqL_cons hl]
      simp only [Op.eqFields,h1,ne_eq,not_false_eq_true,if_true,Sem.run_bind,h2,run_part_ck h3 gx,run_part_ck h3 gy,Result.andThen_ok,run_eq_ck h3 ha.1 hb.1 (d+1)]
      cases hc:eqC x y
      ·simp
      ·simpa using run_eqFields2 d fs ks (j+1) a b h4 dx dy ha.2 hb.2
def eqT2 (P:Program) (t:TypeId) (ks:List CK):Bool:=!P.stoodInHeld t&&!P.eqGuardType P.depth t&&match P.underlying t with
 | some (.struct fs)=>eqFs2 P ks 0 fs.toList
 | _=>false
theorem eqT2_ok {P:Program} {t:TypeId} {ks:List CK} (h:eqT2 P t ks=true) (w:World) (xs ys:Array Value) (ex ey:Operand) (hx:areCK ks xs.toList) (hy:areCK ks ys.toList) :
  (do eqGuard .eql t ex ey (.agg xs) (.agg ys);binOp .eql t (.agg xs) (.agg ys):Sem Value).run P w=.ok (.bool (eqL xs.toList ys.toList)) w /\
  (do eqGuard .neq t ex ey (.agg xs) (.agg ys);binOp .neq t (.agg xs) (.agg ys):Sem Value).run P w=.ok (.bool (!eqL xs.toList ys.toList)) w:=by
 simp only [eqT2,Bool.and_eq_true,Bool.not_eq_true'] at h
 obtain ⟨⟨h1,h2⟩,h3⟩:=h
 split at h3
 ·rename_i fs hu
  have hf:P.fieldsOf t=fs:=by simp [Program.fieldsOf,hu]
  have he:(Op.equalIn 10000 t (.agg xs) (.agg ys)).run P w=.ok (eqL xs.toList ys.toList) w:=by
   rw [run_equalIn_struct w 9999 t xs ys (by rw [hf];exact hu) h1,hf]
   exact run_eqFields2 9997 fs.toList ks 0 _ _ h3 rfl rfl hx hy
  constructor
  ·simp only [Sem.run_bind,run_eqGuard_agg _ _ _ _ _ _ _ h2,Result.andThen_ok,run_eql_struct,he]
  ·simp only [Sem.run_bind,run_eqGuard_agg _ _ _ _ _ _ _ h2,Result.andThen_ok,run_neq_struct,he]
 ·cases h3
theorem tabOf_eq2 {P:Program} {t:TypeId} {i:TyI} (h:tabOf P t=some { i with els:=[],eq:=[] }) (he:eqT2 P t i.eq=true):TyOk P t i:=by
 have:=tabOf_ok t _ h
 exact ⟨this.info,fun hne w xs ys ex ey h1 h2=>eqT2_ok he w xs ys ex ey h1 h2,this.desc⟩
end Go.Proofs.AI
namespace Go.Proofs.AI
open Go.RowKit Go.Proofs
set_option linter.unusedVariables false
set_option linter.unusedSimpArgs false
set_option maxRecDepth 100000
def tabM:Tab:=fun t=>if t=63 then some ⟨.st,11,88,[(0,1,false),(1,1,false),(2,1,false),(3,1,false),(4,7,true)],[.int .i64 0,.int .i64 0,.int .i64 0,.int .i64 0,.int .i64 0,.int .i64 0,.int .i64 0,.int .i64 0,.int .i64 0,.int .i64 0,.int .i64 0],[.n .i64,.n .i64,.n .i64,.n .i64,.n .i64,.n .i64,.n .i64,.n .i64,.n .i64,.n .i64,.n .i64],[]⟩ else tab t
theorem tabM_ok:TabOk Tryz.prog tabM:=by
 intro t i h
 unfold tabM at h
 split at h
 ·rename_i ht;subst ht;cases h;exact tabOf_eq2 rfl (by kernel_rfl)
 ·exact tab_ok t i h
theorem note_ext {a b:Note} (h1:a.kind=b.kind) (h2:a.tx=b.tx) (h3:a.locks=b.locks) (h4:a.writes=b.writes):a=b:=by cases a;cases b;simp_all
theorem msgEq (x y:Msg):(x.kind==y.kind&&(x.to==y.to&&(x.frm==y.frm&&(x.tx==y.tx&&(x.op.kind==y.op.kind&&(x.op.who==y.op.who&&(x.op.inn==y.op.inn&&(x.op.code==y.op.code&&(x.op.sec==y.op.sec&&(x.op.fam==y.op.fam&&x.op.gen==y.op.gen))))))))))=decide (x=y):=by
 rw [Bool.eq_iff_iff]
 simp only [Bool.and_eq_true,beq_iff_eq,decide_eq_true_eq]
 constructor
 ·rintro ⟨h1,h2,h3,h4,h5,h6,h7,h8,h9,h10,h11⟩
  obtain ⟨_,_,_,_,⟨_,_,_,_,_,_,_⟩⟩:=x;obtain ⟨_,_,_,_,⟨_,_,_,_,_,_,_⟩⟩:=y
  simp only at h1 h2 h3 h4 h5 h6 h7 h8 h9 h10 h11
  subst h1 h2 h3 h4 h5 h6 h7 h8 h9 h10 h11
  rfl
 ·rintro rfl;simp
theorem laws_jaNote_ok (a:Note) (b:Note):FunOK Tryz.prog 131 2 [] [(0,kNoteS a),(1,kNoteS b)] (·=[(2,kB (decide (a=b)))]):=by
 refine fun_to (E:=⟨tab,ctOf [laws_jaTexts_c,laws_jaWrites_c],31,[],[(0,[2,3]),(1,[4])],[],[],[],[]⟩) tab_ok mixed Tryz.func131 rfl Tryz.ntmps131 (rvs:=[.tmp 4]) Tryz.results131 rfl fun hl=>?_
 refine cast (show (((a.kind==b.kind)=true->((a.tx==b.tx)=true->∃ (b_1:y_16),(q_S a.locks b_1.1/\q_S b.locks b_1.2)/\(decide (b_1.1=b_1.2)=true->∃ (b_2:y_30),(q_c a.writes b_2.1/\q_c b.writes b_2.2)/\decide (b_2.1=b_2.2)=decide (a=b))/\(decide (b_1.1=b_1.2)=false->false=decide (a=b)))/\((a.tx==b.tx)=false->false=decide (a=b)))/\((a.kind==b.kind)=false->false=decide (a=b)))=_ by kernel_rfl) ?_
 delta t_c q_c t_S q_S y_16 y_30
 simp only [zza,zzb,true_and,and_true,and_self,ne_eq,cI_app,cWrtO_app,cWrtS_app,cWrtO_1,cItemO_1,opr_ex,zcast,frz_nil,nil_map,Option.getD_none,Option.getD_some]
 refine ⟨fun h1=>⟨fun h2=>⟨fun h3=>?_,fun h3=>?_⟩,fun h2=>?_⟩,fun h1=>?_⟩
 ·rw [Bool.eq_iff_iff,decide_eq_true_eq,decide_eq_true_eq];exact ⟨fun h=>note_ext h1 h2 h3 h,fun h=>by rw [h]⟩
 ·exact (decide_eq_false fun he=>h3 (by rw [he])).symm
 ·exact (decide_eq_false fun he=>h2 (by rw [he])).symm
 ·exact (decide_eq_false fun he=>h1 (by rw [he])).symm
def laws_jaNote_c:Con Tryz.prog:=con0 [.lend,.lend] fun b:Note×Note=>laws_jaNote_ok (b.1) (b.2)
theorem laws_jaNotes_ok (a:List Note) (b:List Note):FunOK Tryz.prog 92 2 [] [(0,k1 (sNotes a)),(1,k1 (sNotes b))] (·=[(2,kB (decide (a=b)))]):=by
 refine fun_to (E:=⟨tab,ctOf [laws_jaNote_c],27,[],[(0,[0,1]),(1,[0,1,10]),(2,[4]),(3,[0,1,5]),(4,[0,1,5,14]),(5,[0,1,5]),(6,[0,1,5,26]),(7,[4]),(8,[4])],[(0,⟨Nat,fun x=>[(0,(k1 (.sh 72 (typ dNote eNoteS a)))),(1,(k1 (.sh 72 (typ dNote eNoteS b)))),(5,(k1 (.n .i64 (x:Int))))]⟩)],[],[],[]⟩) tab_ok mixed Tryz.func92 rfl Tryz.ntmps92 (rvs:=[.tmp 4]) Tryz.results92 rfl fun hl=>?_
 refine cast (show ((((zi a.length) != zi b.length)=true->false=decide (a=b))/\(((zi a.length) != zi b.length)=false->∃ (pre:Nat->Prop),∃ (μ:Nat->Nat),∃ (x0:Nat),(q_e a a/\q_e b b/\i_0=zi x0)/\pre x0/\∀ (x:Nat),pre x->(decide (zi x<zi a.length)=true->(i_0<=zi x/\zi x<zi a.length)/\(i_0<=zi x/\zi x<zi b.length)/\∃ (b_1:Note×Note),(((g_Note a x).kind=b_1.1.kind/\(g_Note a x).tx=b_1.1.tx/\q_S (g_Note a x).locks b_1.1.locks/\q_c (g_Note a x).writes b_1.1.writes)/\(g_Note b x).kind=b_1.2.kind/\(g_Note b x).tx=b_1.2.tx/\q_S (g_Note b x).locks b_1.2.locks/\q_c (g_Note b x).writes b_1.2.writes)/\((!decide (b_1.1=b_1.2))=true->false=decide (a=b))/\((!decide (b_1.1=b_1.2))=false->∃ (y:Nat),(q_e a a/\q_e b b/\wr_ ((zi x)+i_1)=zi y)/\pre y/\μ y<μ x))/\(decide (zi x<zi a.length)=false->true=decide (a=b))))=_ by kernel_rfl) ?_
 delta i_0 i_1 wr_ zi t_c q_c t_S q_S g_Note t_e q_e
 have hx:a.length<=9223372036854775807:=hl.1 (.c (sNotes a)) (by simp)
 simp only [zza,zzb,true_and,and_true,and_self,ne_eq,cI_app,cWrtO_app,cWrtS_app,cWrtO_1,cItemO_1,opr_ex,zcast,frz_nil,nil_map,Option.getD_none,Option.getD_some]
 refine ⟨fun h=>?_,fun h=>?_⟩
 ·exact (decide_eq_false fun he=>h (by rw [he])).symm
 have hlen:=len_ne h
 refine ⟨fun i=>i<=a.length/\∀ j,j<i->a.getD j dNote=b.getD j dNote,⟨by omega,fun j hj=>absurd hj (Nat.not_lt_zero _)⟩,fun i=>a.length-i,fun i hp=>?_⟩
 obtain ⟨h1,h2⟩:=hp
 refine ⟨fun hlt=>⟨by omega,hlt,by omega,by omega,fun e=>?_,fun e=>⟨i+1,wrapN (by omega),⟨by omega,below_succ h2 (by simpa using e)⟩,by simp only;omega⟩⟩,fun hge=>?_⟩
 ·have e:¬ a.getD i dNote=b.getD i dNote:=by simpa using e
  exact (decide_eq_false fun he=>e (by rw [he])).symm
 ·exact (decide_eq_true (ext_getD (d:=dNote) hlen fun j hj=>h2 j (by omega))).symm
def laws_jaNotes_c:Con Tryz.prog:=con0 [.lend,.lend] fun b:List Note×List Note=>laws_jaNotes_ok (b.1) (b.2)
theorem laws_jaDisk_ok (a:Disk) (b:Disk):FunOK Tryz.prog 39 2 [] [(0,kDiskS a),(1,kDiskS b)] (·=[(2,kB (decide (a=b)))]):=by
 refine fun_to (E:=⟨tab,ctOf [laws_jaNotes_c],17,[],[(0,[2,3]),(1,[4])],[],[],[],[]⟩) tab_ok mixed Tryz.func39 rfl Tryz.ntmps39 (rvs:=[.tmp 4]) Tryz.results39 rfl fun hl=>?_
 refine cast (show (((a.safe==b.safe)=true->∃ (b_1:y_31),(q_e a.notes b_1.1/\q_e b.notes b_1.2)/\decide (b_1.1=b_1.2)=decide (a=b))/\((a.safe==b.safe)=false->false=decide (a=b)))=_ by kernel_rfl) ?_
 delta t_e q_e y_31
 simp only [zza,zzb,true_and,and_true,and_self,ne_eq,cI_app,cWrtO_app,cWrtS_app,cWrtO_1,cItemO_1,opr_ex,zcast,frz_nil,nil_map,Option.getD_none,Option.getD_some]
 refine ⟨fun h1=>?_,fun h1=>?_⟩
 ·rw [Bool.eq_iff_iff,decide_eq_true_eq,decide_eq_true_eq];exact ⟨fun h=>Disk_ext h h1,fun h=>by rw [h]⟩
 ·exact (decide_eq_false fun he=>h1 (by rw [he])).symm
def laws_jaDisk_c:Con Tryz.prog:=con0 [.lend,.lend] fun b:Disk×Disk=>laws_jaDisk_ok (b.1) (b.2)
theorem laws_jaMsgs_ok (a:List Msg) (b:List Msg):FunOK Tryz.prog 30 2 [] [(0,k1 (sMsgs a)),(1,k1 (sMsgs b))] (·=[(2,kB (decide (a=b)))]):=by
 refine fun_to (E:=⟨tabM,ctOf [],26,[],[(0,[0,1]),(1,[0,1,10]),(2,[4]),(3,[0,1,5]),(4,[0,1,5,14]),(5,[0,1,5]),(6,[0,1,5,25]),(7,[4]),(8,[4])],[(0,⟨Nat,fun x=>[(0,(k1 (.sh 63 (typ dMsg eMsg a)))),(1,(k1 (.sh 63 (typ dMsg eMsg b)))),(5,(k1 (.n .i64 (x:Int))))]⟩)],[],[],[]⟩) tabM_ok mixed Tryz.func30 rfl Tryz.ntmps30 (rvs:=[.tmp 4]) Tryz.results30 rfl fun hl=>?_
 refine cast (show ((((zi a.length) != zi b.length)=true->false=decide (a=b))/\(((zi a.length) != zi b.length)=false->∃ (pre:Nat->Prop),∃ (μ:Nat->Nat),∃ (x0:Nat),(q_g a a/\q_g b b/\i_0=zi x0)/\pre x0/\∀ (x:Nat),pre x->(decide (zi x<zi a.length)=true->(i_0<=zi x/\zi x<zi a.length)/\(i_0<=zi x/\zi x<zi b.length)/\((if true=true then !((g_Msg a x).kind==(g_Msg b x).kind&&((g_Msg a x).to==(g_Msg b x).to&&((g_Msg a x).frm==(g_Msg b x).frm&&((g_Msg a x).tx==(g_Msg b x).tx&&((g_Msg a x).op.kind==(g_Msg b x).op.kind&&((g_Msg a x).op.who==(g_Msg b x).op.who&&((g_Msg a x).op.inn==(g_Msg b x).op.inn&&((g_Msg a x).op.code==(g_Msg b x).op.code&&((g_Msg a x).op.sec==(g_Msg b x).op.sec&&((g_Msg a x).op.fam==(g_Msg b x).op.fam&&(g_Msg a x).op.gen==(g_Msg b x).op.gen)))))))))) else (g_Msg a x).kind==(g_Msg b x).kind&&((g_Msg a x).to==(g_Msg b x).to&&((g_Msg a x).frm==(g_Msg b x).frm&&((g_Msg a x).tx==(g_Msg b x).tx&&((g_Msg a x).op.kind==(g_Msg b x).op.kind&&((g_Msg a x).op.who==(g_Msg b x).op.who&&((g_Msg a x).op.inn==(g_Msg b x).op.inn&&((g_Msg a x).op.code==(g_Msg b x).op.code&&((g_Msg a x).op.sec==(g_Msg b x).op.sec&&((g_Msg a x).op.fam==(g_Msg b x).op.fam&&(g_Msg a x).op.gen==(g_Msg b x).op.gen))))))))))=true->false=decide (a=b))/\((if true=true then !((g_Msg a x).kind==(g_Msg b x).kind&&((g_Msg a x).to==(g_Msg b x).to&&((g_Msg a x).frm==(g_Msg b x).frm&&((g_Msg a x).tx==(g_Msg b x).tx&&((g_Msg a x).op.kind==(g_Msg b x).op.kind&&((g_Msg a x).op.who==(g_Msg b x).op.who&&((g_Msg a x).op.inn==(g_Msg b x).op.inn&&((g_Msg a x).op.code==(g_Msg b x).op.code&&((g_Msg a x).op.sec==(g_Msg b x).op.sec&&((g_Msg a x).op.fam==(g_Msg b x).op.fam&&(g_Msg a x).op.gen==(g_Msg b x).op.gen)))))))))) else (g_Msg a x).kind==(g_Msg b x).kind&&((g_Msg a x).to==(g_Msg b x).to&&((g_Msg a x).frm==(g_Msg b x).frm&&((g_Msg a x).tx==(g_Msg b x).tx&&((g_Msg a x).op.kind==(g_Msg b x).op.kind&&((g_Msg a x).op.who==(g_Msg b x).op.who&&((g_Msg a x).op.inn==(g_Msg b x).op.inn&&((g_Msg a x).op.code==(g_Msg b x).op.code&&((g_Msg a x).op.sec==(g_Msg b x).op.sec&&((g_Msg a x).op.fam==(g_Msg b x).op.fam&&(g_Msg a x).op.gen==(g_Msg b x).op.gen))))))))))=false->∃ (y:Nat),(q_g a a/\q_g b b/\wr_ ((zi x)+i_1)=zi y)/\pre y/\μ y<μ x))/\(decide (zi x<zi a.length)=false->true=decide (a=b))))=_ by kernel_rfl) ?_
 delta i_0 i_1 wr_ zi t_g q_g g_Msg
 have hx:a.length<=9223372036854775807:=hl.1 (.c (sMsgs a)) (by simp)
 simp only [zza,zzb,true_and,and_true,and_self,ne_eq,cI_app,cWrtO_app,cWrtS_app,cWrtO_1,cItemO_1,opr_ex,zcast,frz_nil,nil_map,Option.getD_none,Option.getD_some]
 simp only [msgEq,if_true]
 refine ⟨fun h=>?_,fun h=>?_⟩
 ·exact (decide_eq_false fun he=>h (by rw [he])).symm
 have hlen:=len_ne h
 refine ⟨fun i=>i<=a.length/\∀ j,j<i->a.getD j dMsg=b.getD j dMsg,⟨by omega,fun j hj=>absurd hj (Nat.not_lt_zero _)⟩,fun i=>a.length-i,fun i hp=>?_⟩
 obtain ⟨h1,h2⟩:=hp
 refine ⟨fun hlt=>⟨by omega,hlt,by omega,by omega,fun e=>?_,fun e=>⟨i+1,wrapN (by omega),⟨by omega,below_succ h2 (by simpa using e)⟩,by simp only;omega⟩⟩,fun hge=>?_⟩
 ·have e:¬ a.getD i dMsg=b.getD i dMsg:=by simpa using e
  exact (decide_eq_false fun he=>e (by rw [he])).symm
 ·exact (decide_eq_true (ext_getD (d:=dMsg) hlen fun j hj=>h2 j (by omega))).symm
def laws_jaMsgs_c:Con Tryz.prog:=con0 [.lend,.lend] fun b:List Msg×List Msg=>laws_jaMsgs_ok (b.1) (b.2)
end Go.Proofs.AI
namespace Go.Proofs.AI
open Go.RowKit Go.Proofs
set_option linter.unusedVariables false
set_option linter.unusedSimpArgs false
set_option maxRecDepth 100000
theorem diskR_le {l:List Int}:∀ (k:Nat) (d:Disk) (p:Nat),rdB l p (111*k)->(diskR l k d p).2<=p+111*k
 | 0,d,p,h=>by simp [diskR]
 | k+1,d,p,h=>by
  have h1:=(noteD_le (l:=l) (p:=p) 0 (rdB_le h (by omega))).1
  have h2:=diskR_le k (addD d (noteD l p 0).1 (pickB l (noteD l p 0).2 2==0)).1 ((noteD l p 0).2+1) (rdB_le h (by omega))
  rw [diskR];omega
theorem disk0_le {l:List Int} {p:Nat} (h:rdB l p 1400):(disk0 l p).2<=p+1000:=by
 have b:=pick_lt (l:=l) (p:=p) (n:=10) (rdB_le h (by omega):rdB l p 1) (by omega)
 have:=diskR_le (l:=l) (pickB l p 10).toNat ⟨[],0⟩ (p+1) (rdB_le h (by omega))
 simp only [disk0];omega
theorem diskD_le {l:List Int} {p:Nat} (n:Int) (h:rdB l p 1400):(diskD l p n).2<=p+1200:=by
 have h1:=disk0_le h
 have h2:=odd_le l (disk0 l p).2 n
 have h3:=(noteD_le (l:=l) (p:=(oddB l (disk0 l p).2 n).2+1) 1 (rdB_le h (by omega))).1
 rw [diskD_eq]
 split
 ·simp only [diskBent]
  repeat' split
  all_goals simp only<;>omega
 ·simp only;omega
theorem frontD_le {l:List Int} {p:Nat} (n:Int) (h:rdB l p 4000):(frontD l p n).2<=p+2500:=by
 have h1:=playD_le50 (l:=l) (p:=p) (rdB_le h (by omega))
 have h2:=odd_le l (playD l p 50).2 n
 have h3:=diskD_le (l:=l) (p:=(oddB l (playD l p 50).2 n).2+1) 2 (rdB_le h (by omega))
 have h4:=op_le (l:=l) (p:=(oddB l (playD l p 50).2 n).2+2) 2 (rdB_le h (by omega))
 rw [frontD_eq]
 split
 ·simp only [frontBent]
  repeat' split
  all_goals simp only<;>omega
 ·simp only;omega
end Go.Proofs.AI
namespace Go.Proofs.AI
open Go.RowKit Go.Proofs Go.Lib Go.Shelf
set_option linter.unusedVariables false
set_option linter.unusedSimpArgs false
set_option maxRecDepth 100000
theorem info_F:∃ (i:TypeInfo) (z:Value),Tryz.prog.info? 36=some i/\i.size=11/\0<i.bytes/\i.zero=some z/\(∀ v∈z.cells,v.oneCell'=true)/\z.cells.size=11:=⟨_,_,rfl,rfl,by decide,rfl,by decide,rfl⟩
set_option maxHeartbeats 4000000 in
theorem del_F:DelCall Tryz.prog 161 36 11:=by
 intro w g n cap i j cur hg hcur hn hcap hij hj hone
 have mixed:Tryz.prog.follows .mixedOrders=true:=rfl
 obtain ⟨i0,zz,hi0,hzs,hzb,hzz,hz1c,hzc⟩:=info_F
 have t33:Tryz.prog.underlying 26=some (.slice 36):=rfl
 have t3:Tryz.prog.underlying 3=some (.int .i64):=rfl
 have t4:Tryz.prog.underlying 4=some .bool:=rfl
 have a33:=isAgg_of t33
 have a3:=isAgg_of t3
 have a4:=isAgg_of t4
 simp only [TypeDesc.isRow] at a33 a3 a4
 have z75:∀ w,(Go.sizeOf 36).run Tryz.prog w=.ok 11 w:=fun w=>by rw [sizeOf_of hi0,hzs]
 obtain ⟨i33,e33,s33,y33⟩:∃ i:TypeInfo,Tryz.prog.info? 26=some i/\i.size=1/\i.zero=some (.slice none 0 0):=⟨_,rfl,rfl,rfl⟩
 obtain ⟨i3,e3,q3,y3⟩:∃ i:TypeInfo,Tryz.prog.info? 3=some i/\i.size=1/\i.zero=some (.int .i64 0):=⟨_,rfl,rfl,rfl⟩
 obtain ⟨i4,e4,q4,y4⟩:∃ i:TypeInfo,Tryz.prog.info? 4=some i/\i.size=1/\i.zero=some (.bool false):=⟨_,rfl,rfl,rfl⟩
 have z33:∀ w,(Go.sizeOf 26).run Tryz.prog w=.ok 1 w:=fun w=>by rw [sizeOf_of e33,s33]
 have z3:∀ w,(Go.sizeOf 3).run Tryz.prog w=.ok 1 w:=fun w=>by rw [sizeOf_of e3,q3]
 have z4:∀ w,(Go.sizeOf 4).run Tryz.prog w=.ok 1 w:=fun w=>by rw [sizeOf_of e4,q4]
 have v33:=zero_of e33 y33
 have v3:=zero_of e3 y3
 have v4:=zero_of e4 y4
 have v75:=zero_of hi0 hzz
 have hm:cap<=9223372036854775807:=by unfold maxLen at hcap;omega
 obtain ⟨news,hnl,hnews⟩:∃ news:List Value,news.length=(n-j)*11/\∀ t,t<(n-j)*11->news[t]?=cur[j*11+t]?:=by
  refine ⟨(List.range ((n-j)*11)).map fun t=>cur.getD (j*11+t) undef,by simp,fun t ht=>?_⟩
  rw [List.getElem?_map,List.getElem?_range ht]
  simp [Array.getD_eq_getD_getElem?,show j*11+t<cur.size by omega]
 obtain ⟨A,hA,hsrc⟩:∃ A:Addr,(if cap=j then some (⟨g,0,none⟩:Addr) else some ⟨g,j*11,none⟩)=some A/\Hid (∀ t u,news[t]?=some u->w.drew.cell? (A.add t)=some u):=by
  by_cases h:cap=j
  ·refine ⟨⟨g,0,none⟩,by simp [h],fun t u hu=>?_⟩
   have ht:=(List.getElem?_eq_some_iff.1 hu).1
   rw [hnl] at ht
   omega
  ·refine ⟨⟨g,j*11,none⟩,by simp [h],fun t u hu=>?_⟩
   have ht:=(List.getElem?_eq_some_iff.1 hu).1
   rw [hnl] at ht
   rw [hnews t ht] at hu
   rw [Addr.add_lit]
   exact (cell_of (w:=w) hg _).trans hu
 have s1:Hid (news.length=(n-j)*11):=hnl
 have s2:Hid (∀ u∈news,u.oneCell'=true):=by
  intro u hu
  obtain ⟨t,ht⟩:=List.getElem?_of_mem hu
  have hlt:=(List.getElem?_eq_some_iff.1 ht).1
  rw [hnl] at hlt
  rw [hnews t hlt] at ht
  exact hone _ u (by omega) ht
 have s3:Hid (∀ t,t<news.length->(w.drew.cell? ⟨g,0+i*11+t,none⟩).isSome=true/\w.drew.frozen? ⟨g,0+i*11+t,none⟩=false):=by
  intro t ht
  rw [hnl] at ht
  refine ⟨?_,frozen_of (w:=w.drew) hg _⟩
  rw [cell_of (w:=w.drew) hg,Array.getElem?_eq_getElem (by omega)]<;>rfl
 obtain ⟨W1,hW1⟩:∃ W1,W1=w.drew.setCells g (0+i*11) news:=⟨_,rfl⟩
 obtain ⟨cur1,c1,c2,c3,c4⟩:=setCells_heap g news (0+i*11) w.drew (cur:=cur) (e:=36) (fr:=(0,0)) hg
 have o1:Oth w W1 g:=by rw [hW1];exact (Oth.drew w g).trans (oth_setCells g _ _ _)
 rw [<- hW1] at c1
 have hclr:∃ zs:List Value,(Builtin.clear_ #[26] 0 #[.slice (some ⟨g,(i+(n-j))*11,none⟩) (n-(i+(n-j))) (cap-(i+(n-j)))]).run Tryz.prog W1=.ok (.tuple #[]) (W1.setCells g ((i+(n-j))*11) zs)/\zs.length=(n-(i+(n-j)))*11 :=
  hzc▸run_clear_any W1 26 36 0 _ t33 v75 hz1c g ((i+(n-j))*11) (n-(i+(n-j))) (cap-(i+(n-j))) (by omega) (fun t ht=>by
   have ht:t<(n-(i+(n-j)))*11:=by rw [hzc] at ht;exact ht
   rw [cell_of c1,Array.getElem?_eq_getElem (by omega)]<;>rfl) (fun t ht=>frozen_of c1 _)
 obtain ⟨zs,hz1,hzl⟩:=hclr
 have hcl:∀ ty,(Builtin.clear_ #[26] ty #[.slice (some ⟨g,(i+(n-j))*11,none⟩) (n-(i+(n-j))) (cap-(i+(n-j)))]).run Tryz.prog W1=.ok (.tuple #[]) (W1.setCells g ((i+(n-j))*11) zs):=fun ty=>hz1
 obtain ⟨W2,hW2⟩:∃ W2,W2=W1.setCells g ((i+(n-j))*11) zs:=⟨_,rfl⟩
 rw [<- hW2] at hcl
 obtain ⟨cur2,d1,d2,d3,d4⟩:=setCells_heap g zs ((i+(n-j))*11) W1 c1
 rw [<- hW2] at d1
 have o2:Oth w W2 g:=by rw [hW2];exact o1.trans (oth_setCells g _ _ _)
 have fin:Hid (∃ cur':Array Value,W2.heap[g]?=some (.cells cur' 36 (0,0))/\cur'.size=cur.size/\(∀ q,q<i*11->cur'[q]?=cur[q]?)/\(∀ q,i*11<=q->q<(n-(j-i))*11->cur'[q]?=cur[q+(j-i)*11]?)/\Oth w W2 g):=by
  refine ⟨cur2,d1,by rw [d2,c2],fun q hq=>?_,fun q h1 h2=>?_,o2⟩
  ·rw [d3 q (by omega),c3 q (by omega)]
  ·rw [d3 q (by omega)]
   obtain ⟨t,rfl⟩:∃ t,q=i*11+t:=⟨q-i*11,by omega⟩
   have ht:t<(n-j)*11:=by omega
   have hsome:cur[j*11+t]?=some (cur[j*11+t]'(by omega)):=Array.getElem?_eq_getElem _
   have:=c4 t _ ((hnews t ht).trans hsome) (by omega)
   rw [show 0+i*11+t=i*11+t by omega] at this
   rw [this,show i*11+t+(j-i)*11=j*11+t by omega,hsome]
 have hW:Hid (W1=w.drew.setCells g (0+i*11) news):=hW1
 have hic:i<=cap:=by omega
 have hjc:j<=cap:=by omega
 have hne:¬ ((i:Int)=(j:Int)):=by omega
 clear hW1 hW2 hz1 hnews hnl c1 c2 c3 c4 d1 d2 d3 d4 o1 o2 hone hzl hg
 go_enter Tryz.func161,Tryz.ntmps161
 go_wp2_with fail
 go_region_law_o (refine step_append_room rfl (.tmp 22) (.tmp 25) 26 rfl 36 i0 11 t33 hi0 hzs g 0 i cap (by simp [Act.eval,Act.put]) A (n-j) (cap-j) news (by simp [Act.eval,Act.put]) s1.out hsrc.out s2.out (by omega) s3.out ?_;rw [<- hW.out])
 go_wp2
 go_ret
 exact ⟨by rw [show n-(j-i)=i+(n-j) by omega]<;>rfl,fin.out⟩
theorem ent_delF (args:Array Value) (w:World):(callFunc 161 args).run Tryz.prog w=.ok (.enter 161 args) w:=ent_of Tryz.func161 rfl rfl args w
theorem delF_ok (s:List FTx) (i:Nat) (hi:i<s.length):FunOK Tryz.prog 161 3 [] [(0,k1 (oFTxs s)),(1,kI i),(2,kI ((i:Int)+1))] (·=[(3,k1 (oFTxs (s.eraseIdx i)))]):=by
 have h:=del_fun del_F (by kernel_rfl) ent_delF (typ dFTx eFTxO s) i (i+1) (by omega) (by show i+1<=s.length;omega)
 rw [typ_del _ _ _ _ hi] at h
 exact h
def delF_c:Con Tryz.prog:=⟨161,3,[.give,.lend,.lend],[],List FTx×Nat,some fun b=>b.2<b.1.length,fun b=>[(0,k1 (oFTxs b.1)),(1,kI b.2),(2,kI ((b.2:Int)+1))],fun b=>[(3,k1 (oFTxs (b.1.eraseIdx b.2)))],[],fun b h=>delF_ok b.1 b.2 h⟩
end Go.Proofs.AI
namespace Go.Proofs.AI
set_option linter.unusedVariables false
set_option linter.unusedSimpArgs false
theorem risB_iff {l:List Int}:risB l=true↔ris3 l:=by
 refine ⟨ris3_of,fun h=>?_⟩
 rcases ris3_cases h with rfl | rfl | rfl | rfl | rfl | rfl | rfl | rfl<;>decide
theorem adj_pw {l:List FTx} (h:∀ i,i+1<l.length->(l.getD i dFTx).tx<(l.getD (i+1) dFTx).tx):l.Pairwise fun a b=>a.tx<b.tx:=by
 have lt:∀ d i,i+d+1<l.length->(l.getD i dFTx).tx<(l.getD (i+d+1) dFTx).tx:=fun d=>by
  induction d with
  | zero=>intro i hi;exact h i hi
  | succ d ih=>intro i hi;have:=ih i (by omega);have:=h (i+d+1) (by omega);rw [show i+(d+1)+1=i+d+1+1 by omega];omega
 refine List.pairwise_iff_getElem.2 fun i j hi hj hij=>?_
 have:=lt (j-i-1) i (by omega)
 rw [show i+(j-i-1)+1=j by omega,getD_lt hi,getD_lt hj] at this
 exact this
theorem pw_at {l:List FTx} (h:l.Pairwise fun a b=>a.tx<b.tx) {i j:Nat} (hij:i<j) (hj:j<l.length):(l.getD i dFTx).tx<(l.getD j dFTx).tx:=by
 have:=List.pairwise_iff_getElem.1 h i j (by omega) hj hij
 rwa [getD_lt (by omega:i<l.length),getD_lt hj]
theorem froB_iff {f:Front}:froB f=true↔okF f:=by
 refine ⟨fun h=>?_,fun h=>?_⟩
 ·obtain ⟨g1,g2,g3,g4⟩:=froB_parts h
  have hp:∀ k,k<f.way.length->okT f.disk.notes (f.way.getD k dFTx):=fun k hk=>by
   have:=g4 k hk
   simp only [wayP,Bool.and_eq_true,Bool.or_eq_true,beq_iff_eq,decide_eq_true_eq] at this
   obtain ⟨⟨⟨⟨⟨q1,q2⟩,q3⟩,q4⟩,q5⟩,q6⟩:=this
   refine ⟨by simpa [inR] using q1,risB_iff.1 q3,risB_iff.1 q4,q5,fun hy=>?_⟩
   rcases q6 with q6 | q6
   ·rw [hy] at q6;cases q6
   ·exact ⟨q6.1,List.length_eq_zero_iff.1 q6.2⟩
  refine ⟨g1,g2,g3,adj_pw fun i hi=>?_,fun t ht=>?_⟩
  ·have:=g4 (i+1) hi
   simp only [wayP,Bool.and_eq_true,Bool.or_eq_true,beq_iff_eq,decide_eq_true_eq] at this
   rcases this.1.1.1.1.2 with h0 | h0
   ·omega
   ·simpa using h0
  ·obtain ⟨k,hk,rfl⟩:=List.getElem_of_mem ht
   have:=hp k hk
   rwa [getD_lt hk] at this
 ·simp only [froB,Bool.and_eq_true,decide_eq_true_eq,List.all_eq_true,Bool.or_eq_true,beq_iff_eq,List.mem_range]
  refine ⟨⟨⟨h.fd,h.wl⟩,h.kd⟩,fun k hk=>?_⟩
  have ht:=h.ok _ (getD_mem' (d:=dFTx) hk)
  simp only [wayP,Bool.and_eq_true,Bool.or_eq_true,beq_iff_eq,decide_eq_true_eq]
  refine ⟨⟨⟨⟨⟨by simpa [inR] using ht.tx,?_⟩,risB_iff.2 ht.can⟩,risB_iff.2 ht.know⟩,ht.yes⟩,?_⟩
  ·rcases Nat.eq_zero_or_pos k with h0 | h0
   ·exact .inl h0
   ·exact .inr (pw_at h.ws (by omega) hk)
  ·rcases Bool.eq_false_or_eq_true (f.way.getD k dFTx).yes with hy | hy
   ·exact .inl hy
   ·exact .inr ⟨(ht.op hy).1,by rw [(ht.op hy).2]<;>rfl⟩
theorem okF.small {f:Front} (h:okF f):smallF f:=froB_smallF (froB_iff.2 h)
theorem okF.tx_ne {f:Front} (h:okF f) {i j:Nat} (hi:i<f.way.length) (hj:j<f.way.length) (hij:i≠j):(f.way.getD i dFTx).tx≠(f.way.getD j dFTx).tx:=by
 rcases Nat.lt_or_gt_of_ne hij with h1 | h1
 ·have:=pw_at h.ws h1 hj;omega
 ·have:=pw_at h.ws h1 hi;omega
theorem okF.at_eq {f:Front} (h:okF f) {k:Nat} (hk:k<f.way.length):atF f.way (f.way.getD k dFTx).tx=(k:Int):=by
 refine idxOf_hit (d:=dFTx) hk (by simp) fun j hj=>?_
 have:=pw_at h.ws hj hk
 simp only [beq_eq_false_iff_ne];omega
theorem gone_ok {f:Front} (h:okF f) (k:Nat):okF (goneF f k):=by
 refine ⟨h.fd,?_,h.kd,h.ws.sublist (List.eraseIdx_sublist ..),fun t ht=>h.ok t (List.mem_of_mem_eraseIdx ht)⟩
 have:=h.wl
 simp only [goneF,List.length_eraseIdx]
 split<;>omega
theorem noF_ok {f:Front} (h:okF f) (k:Nat):okF (noF f k).1:=gone_ok h k
end Go.Proofs.AI
namespace Go.Proofs.AI
open Go.RowKit Go.Proofs
set_option linter.unusedVariables false
set_option linter.unusedSimpArgs false
set_option maxRecDepth 100000
theorem impl_FroState_copied_ok (f:Front) (hpre:smallF f):FunOK Tryz.prog 69 1 [] [(0,kFrontS f)] (·=[(1,kFrontO f)]):=by
 refine fun_to (E:=⟨tab,ctOf [impl_LogDisk_copied_c,CloneI_c],33,[],[(0,[1,2,3,32]),(1,[1,2,3,32]),(2,[1,2,3,10,11,12,13,32]),(3,[1,2,3,10,11,12,13,14,32]),(4,[1,2,3,5,10,11,12,13,32]),(5,[1,2,3,5,10,11,12,13,32]),(6,[1,2,3,10,11,12,13,32]),(7,[1,2,3,10,11,12,13,32]),(8,[2,3,32])],[(0,⟨List FTx×Nat,fun x=>[(1,⟨.box,[.c (.sh 72 (typ dNote eNoteS f.disk.notes)),.c (.n .i64 f.disk.safe),.c (.sh 36 (typ dFTx eFTxS f.way))],[]⟩),(2,⟨.box,[.c (.ow 72 nilR),.c (.n .i64 ((0:Int))),.c (.ow 36 nilR)],[]⟩),(3,⟨.box,[.c (.ow 72 (typ dNote eNoteO f.disk.notes)),.c (.n .i64 f.disk.safe),.c (oFTxs (x.1))],[]⟩),(10,⟨.one,[.pr 1 2 0],[]⟩),(11,(k1 (.sh 36 (typ dFTx eFTxS f.way)))),(12,(k1 (.n .i64 ((↑f.way.length:Int))))),(13,(k1 (.n .i64 (x.2:Int))))]⟩)],[(6,[(1000002,[])])],[],[]⟩) tab_ok mixed Tryz.func69 rfl Tryz.ntmps69 (rvs:=[.cell 2 28]) Tryz.results69 rfl fun hl=>?_
 refine cast (show (let k_4:Prop:=f.disk.safe=f.disk.safe;let k_3:Prop:=n_1=n_1/\n_2=n_2/\true=true;let k_2:Prop:=cnRs nilR=cnRs nilR/\i_0=i_0/\cnRs nilR=cnRs nilR;let k_1:Prop:=q_e f.disk.notes f.disk.notes/\k_4/\q_h f.way f.way;∃ (b:Disk),(q_e f.disk.notes b.notes/\f.disk.safe=b.safe)/\smallD b/\(∃ (pre:List FTx×Nat->Prop),∃ (μ:List FTx×Nat->Nat),∃ (x0:List FTx×Nat),(k_1/\k_2/\(q_f b.notes f.disk.notes/\b.safe=f.disk.safe/\cnRs nilR=t_j x0.1)/\k_3/\q_h f.way f.way/\zi f.way.length=zi f.way.length/\i_0=zi x0.2)/\pre x0/\(∀ (x:List FTx×Nat),pre x->(decide (zi x.2<zi f.way.length)=true->(i_0<=zi x.2/\zi x.2<zi f.way.length)/\(∃ (b:List Int),q_I (g_FTx f.way x.2).can b/\b.length<=n_1000/\(∃ (b_1:List Int),q_I (g_FTx f.way x.2).know b_1/\b_1.length<=n_1000/\(x.1.length+n_1)*n_120<=n_140737488355328/\(∃ (y:List FTx×Nat),(k_1/\k_2/\(q_f f.disk.notes f.disk.notes/\k_4/\cnRs (appR (typ dFTx eFTxO x.1) (raw [[cn_ (g_FTx f.way x.2).tx,cn_ (g_FTx f.way x.2).op.kind,cn_ (g_FTx f.way x.2).op.who,cn_ (g_FTx f.way x.2).op.inn,cn_ (g_FTx f.way x.2).op.code,cn_ (g_FTx f.way x.2).op.sec,cn_ (g_FTx f.way x.2).op.fam,cn_ (g_FTx f.way x.2).op.gen,CV.b (g_FTx f.way x.2).yes,CV.ow n_3 (typ i_0 eI b),CV.ow n_3 (typ i_0 eI b_1)]]))=t_j y.1)/\k_3/\q_h f.way f.way/\zi f.way.length=zi f.way.length/\wr_ ((zi x.2)+i_1)=zi y.2)/\pre y/\μ y<μ x))))/\(decide (zi x.2<zi f.way.length)=false->q_f f.disk.notes f.disk.notes/\k_4/\q_j x.1 f.way))))=_ by kernel_rfl) ?_
 delta i_0 i_1 wr_ zi t_I q_I n_140737488355328 n_1 n_3 n_1000 cn_ n_2 t_e q_e t_f q_f n_120 g_FTx t_h q_h t_j q_j
 obtain ⟨p1,p2,p3⟩:=hpre
 simp only [zza,zzb,true_and,and_true,and_self,ne_eq,cI_app,cWrtO_app,cWrtS_app,cWrtO_1,cItemO_1,opr_ex,zcast,frz_nil,nil_map,Option.getD_none,Option.getD_some]
 refine ⟨p1,fun x=>x.2<=f.way.length/\x.1=f.way.take x.2,⟨by omega,rfl⟩,fun x=>f.way.length-x.2,fun a i hp=>?_⟩
 obtain ⟨h1,h2⟩:=hp
 simp only at h1 h2
 subst h2
 refine ⟨fun hlt=>?_,fun hge=>?_⟩
 ·have hm:f.way.getD i dFTx∈f.way:=by rw [getD_lt (by omega)];exact List.getElem_mem _
  refine ⟨by omega,hlt,(p3 _ hm).1,(p3 _ hm).2,by rw [List.length_take];omega,f.way.take (i+1),?_,i+1,wrapN (by omega),⟨by simp only;omega,rfl⟩,by simp only;omega⟩
  rw [take_succ (d:=dFTx) (by omega)]
  simp
 ·have:i=f.way.length:=by omega
  subst this
  simp
def impl_FroState_copied_c:Con Tryz.prog:=conP [.lend] fun (b:Front) h=>impl_FroState_copied_ok b h
theorem TxIs_ok (t:FTx) (tx:Int):FunOK Tryz.prog 160 2 [] [(0,kFTxS t),(1,k1 (.rp [.n .i64 tx]))] (·=[(2,kB (t.tx==tx))]):=by
 refine fun_to (E:=⟨tab,ctOf [],8,[],[(0,[1,2]),(1,[3])],[],[],[],[]⟩) tab_ok mixed Tryz.func160 rfl Tryz.ntmps160 (rvs:=[.tmp 3]) Tryz.results160 rfl fun hl=>?_
 refine cast (show ((t.tx==tx)=(t.tx==tx))=_ by kernel_rfl) ?_
 simp only [zza,zzb,true_and,and_true,and_self,ne_eq,cI_app,cWrtO_app,cWrtS_app,cWrtO_1,cItemO_1,opr_ex,zcast,frz_nil,nil_map,Option.getD_none,Option.getD_some]
 done
def TxIs_c:Con Tryz.prog:=con0 [.lend] fun b:FTx×Int=>TxIs_ok (b.1) (b.2)
theorem IndexTx_ok (xs:List FTx) (tx:Int):FunOK Tryz.prog 159 2 [] [(0,k1 (sFTxs xs)),(1,k1 (.fn 160 [.rp [.n .i64 tx]]))] (·=[(2,kI (atF xs tx))]):=by
 refine fun_to (E:=⟨tab,ctOf [TxIs_c],19,[],[(0,[0,1]),(1,[0,1,7,8]),(2,[0,1,7,8,9]),(3,[0,1,5,7,8]),(4,[0,1,5,7,8,16]),(5,[4]),(6,[0,1,7,8]),(7,[4])],[(0,⟨Nat,fun x=>[(0,(k1 (.sh 36 (typ dFTx eFTxS xs)))),(1,(k1 (.fn 160 ([CV.rp [CV.n .i64 tx]])))),(7,(k1 (.n .i64 ((↑xs.length:Int))))),(8,(k1 (.n .i64 (x:Int))))]⟩)],[],[],[]⟩) tab_ok mixed Tryz.func159 rfl Tryz.ntmps159 (rvs:=[.tmp 4]) Tryz.results159 rfl fun hl=>?_
 refine cast (show (let k_1:Prop:=cnR [CV.rp [cn_ tx]]=cnR [CV.rp [cn_ tx]];∃ (pre:Nat->Prop),∃ (μ:Nat->Nat),∃ (x0:Nat),(q_h xs xs/\k_1/\zi xs.length=zi xs.length/\i_0=zi x0)/\pre x0/\(∀ (x:Nat),pre x->(decide (zi x<zi xs.length)=true->(i_0<=zi x/\zi x<zi xs.length)/\(∃ (b:FTx×Int),(((g_FTx xs x).tx=b.1.tx/\(g_FTx xs x).op.kind=b.1.op.kind/\(g_FTx xs x).op.who=b.1.op.who/\(g_FTx xs x).op.inn=b.1.op.inn/\(g_FTx xs x).op.code=b.1.op.code/\(g_FTx xs x).op.sec=b.1.op.sec/\(g_FTx xs x).op.fam=b.1.op.fam/\(g_FTx xs x).op.gen=b.1.op.gen/\(g_FTx xs x).yes=b.1.yes/\q_I (g_FTx xs x).can b.1.can/\q_I (g_FTx xs x).know b.1.know)/\cnR [cn_ tx]=cnR [cn_ b.2])/\((b.1.tx==b.2)=true->zi x=atF xs tx)/\((b.1.tx==b.2)=false->∃ (y:Nat),(q_h xs xs/\k_1/\zi xs.length=zi xs.length/\wr_ ((zi x)+i_1)=zi y)/\pre y/\μ y<μ x)))/\(decide (zi x<zi xs.length)=false->(-1:Int)=atF xs tx)))=_ by kernel_rfl) ?_
 delta i_0 i_1 wr_ zi t_I q_I cn_ g_FTx t_h q_h
 have hx:xs.length<=9223372036854775807:=hl.1 _ (List.mem_singleton.2 rfl)
 simp only [zza,zzb,true_and,and_true,and_self,ne_eq,cI_app,cWrtO_app,cWrtS_app,cWrtO_1,cItemO_1,opr_ex,zcast,frz_nil,nil_map,Option.getD_none,Option.getD_some]
 refine ⟨fun i=>i<=xs.length/\∀ j,j<i->(fun t:FTx=>t.tx==tx) (xs.getD j dFTx)=false,⟨by simp,fun j hj=>absurd hj (Nat.not_lt_zero _)⟩,fun i=>xs.length-i,fun i hi=>?_⟩
 obtain ⟨h1,h2⟩:=hi
 refine ⟨fun hlt=>⟨by omega,by omega,tx,rfl,fun hp=>?_,fun hp=>⟨i+1,wrapN (by omega),⟨by omega,below_succ h2 (by simpa using hp)⟩,by simp only;omega⟩⟩,fun hge=>?_⟩
 ·exact (idx_hit (p:=fun t:FTx=>t.tx==tx) (d:=dFTx) (by omega) (by simpa using hp) h2).symm
 ·exact (idx_miss (p:=fun t:FTx=>t.tx==tx) (d:=dFTx) fun j hj=>h2 j (by omega)).symm
def IndexTx_c:Con Tryz.prog:=con0 [.lend,.lend] fun b:List FTx×Int=>IndexTx_ok (b.1) (b.2)
theorem impl_FroState_find_ok (f:Front) (tx:Int):FunOK Tryz.prog 118 2 [0] [(0,⟨.box,cKFrontO f,[]⟩),(1,kI tx)] (·=[(2,kI (atF f.way tx)),(0,⟨.box,cKFrontO f,[]⟩)]):=by
 refine fun_to (E:=⟨tab,ctOf [],11,[0],[(0,[0,3]),(1,[0,4])],[],[],[],[(1,[IndexTx_c])]⟩) tab_ok mixed Tryz.func118 rfl Tryz.ntmps118 (rvs:=[.tmp 4]) Tryz.results118 rfl fun hl=>?_
 refine cast (show (True/\∃ (b:List FTx×Int),(cnRs (frozenRs (typ dFTx eFTxO f.way))=t_h b.1/\cnR [CV.rp [cn_ tx]]=cnR [CV.rp [cn_ b.2]])/\atF b.1 b.2=atF f.way tx/\q_f f.disk.notes f.disk.notes/\f.disk.safe=f.disk.safe/\q_j f.way f.way)=_ by kernel_rfl) ?_
 delta cn_ t_f q_f t_h t_j q_j
 simp only [zza,zzb,true_and,and_true,and_self,ne_eq,cI_app,cWrtO_app,cWrtS_app,cWrtO_1,cItemO_1,opr_ex,zcast,frz_nil,nil_map,Option.getD_none,Option.getD_some]
 exact ⟨tx,rfl,rfl⟩
def impl_FroState_find_c:Con Tryz.prog:=con0 [.ptr,.lend] fun b:Front×Int=>impl_FroState_find_ok (b.1) (b.2)
def toldF (kind tx:Int) (o:Opr) (ps:List Int):List Msg:=ps.map fun p=>⟨kind,p,0,tx,o⟩
theorem told_send {k tx:Int} {o:Opr} {ps:List Int} (h:k=1∨o=dOpr):toldF k tx o ps=sendF k tx o ps:=by
 simp only [toldF,sendF]
 rcases h with h | h
 ·simp only [h,if_true]
 ·simp only [h,ite_self]
theorem impl_told_ok (kind:Int) (tx:Int) (o:Opr) (ps:List Int) (hpre:ps.length<=1000):FunOK Tryz.prog 79 4 [] [(0,kI kind),(1,kI tx),(2,kOp o),(3,k1 (sI ps))] (·=[(4,k1 (oMsgs (toldF kind tx o ps)))]):=by
 refine fun_to (E:=⟨tab,ctOf [],28,[],[(0,[0,1,3,6,9,18,23,24,25]),(1,[0,1,3,6,9,18,23,24,25]),(2,[0,1,3,6,9,12,13,14,18,23,24,25]),(3,[0,1,3,6,9,12,13,14,15,18,23,24,25]),(4,[0,1,3,6,9,11,12,13,14,18,23,24,25]),(5,[0,1,3,6,9,12,13,14,18,23,24,25]),(6,[0,1,3,6,9,12,13,14,18,23,24,25]),(7,[8,9,18,23,24,25,27])],[(0,⟨List Msg×Nat,fun x=>[(0,(k1 (.n .i64 kind))),(1,(k1 (.n .i64 tx))),(3,(k1 (.sh 3 (typ (0:Int) eI ps)))),(6,⟨.box,[.c (.n .i64 o.kind),.c (.n .i64 o.who),.c (.n .i64 o.inn),.c (.n .i64 o.code),.c (.n .i64 o.sec),.c (.n .i64 o.fam),.c (.n .i64 o.gen)],[]⟩),(9,(k1 (oMsgs (x.1)))),(12,(k1 (.sh 3 (typ (0:Int) eI ps)))),(13,(k1 (.n .i64 ((↑ps.length:Int))))),(14,(k1 (.n .i64 (x.2:Int))))]⟩)],[(5,[(1000000,[])]),(7,[(1000000,[])])],[],[]⟩) tab_ok mixed Tryz.func79 rfl Tryz.ntmps79 (rvs:=[.tmp 8]) Tryz.results79 rfl fun hl=>?_
 refine cast (show (let k_1:Prop:=o.kind=o.kind/\o.who=o.who/\o.inn=o.inn/\o.code=o.code/\o.sec=o.sec/\o.fam=o.fam/\o.gen=o.gen;∃ (pre:List Msg×Nat->Prop),∃ (μ:List Msg×Nat->Nat),∃ (x0:List Msg×Nat),(kind=kind/\tx=tx/\q_I ps ps/\k_1/\x0.1.length=n_0/\q_I ps ps/\zi ps.length=zi ps.length/\i_0=zi x0.2)/\pre x0/\(∀ (x:List Msg×Nat),pre x->(decide (zi x.2<zi ps.length)=true->(i_0<=zi x.2/\zi x.2<zi ps.length)/\(x.1.length+n_1)*n_88<=n_140737488355328/\(∃ (y:List Msg×Nat),(kind=kind/\tx=tx/\q_I ps ps/\k_1/\cnRs (appR (typ dMsg eMsg x.1) (raw [[cn_ kind,cn_ (g_Int ps x.2),cn_ i_0,cn_ tx,cn_ o.kind,cn_ o.who,cn_ o.inn,cn_ o.code,cn_ o.sec,cn_ o.fam,cn_ o.gen]]))=t_g y.1/\q_I ps ps/\zi ps.length=zi ps.length/\wr_ ((zi x.2)+i_1)=zi y.2)/\pre y/\μ y<μ x))/\(decide (zi x.2<zi ps.length)=false->q_g x.1 (toldF kind tx o ps))))=_ by kernel_rfl) ?_
 delta i_0 i_1 wr_ g_Int zi t_I q_I n_0 n_140737488355328 n_1 cn_ t_g q_g n_88
 simp only [zza,zzb,true_and,and_true,and_self,ne_eq,cI_app,cWrtO_app,cWrtS_app,cWrtO_1,cItemO_1,opr_ex,zcast,frz_nil,nil_map,Option.getD_none,Option.getD_some]
 refine ⟨fun x=>x.2<=ps.length/\x.1=toldF kind tx o (ps.take x.2),fun x=>ps.length-x.2,[],rfl,⟨by omega,rfl⟩,fun a i hp=>?_⟩
 obtain ⟨h1,h2⟩:=hp
 simp only at h1 h2
 subst h2
 refine ⟨fun hlt=>⟨by omega,hlt,by simp only [toldF,List.length_map,List.length_take];omega,toldF kind tx o (ps.take (i+1)),?_,i+1,wrapN (by omega),⟨by simp only;omega,rfl⟩,by simp only;omega⟩,fun hge=>?_⟩
 ·rw [take_succ (d:=0) (by omega)]
  simp [toldF]
 ·have:i=ps.length:=by omega
  rw [this,List.take_length]
def impl_told_c:Con Tryz.prog:=conP [.lend,.lend,.lend,.lend] fun (b:Int×Int×Opr×List Int) h=>impl_told_ok (b.1) (b.2.1) (b.2.2.1) (b.2.2.2) h
end Go.Proofs.AI
namespace Go.Proofs.AI
open Go.RowKit Go.Proofs
set_option linter.unusedVariables false
set_option linter.unusedSimpArgs false
set_option maxRecDepth 100000
theorem impl_FroState_abort_ok (f:Front) (k:Nat) (hpre:k<f.way.length/\f.way.length<=1000):FunOK Tryz.prog 119 2 [0] [(0,⟨.box,cKFrontO f,[]⟩),(1,kI k)] (·=[(2,⟨.tup [(false,1),(false,1)],[.c (oMsgs (noF f k).2.1),.c (oFOuts (noF f k).2.2)],[]⟩),(0,⟨.box,cKFrontO (noF f k).1,[]⟩)]):=by
 refine fun_to (E:=⟨tab,ctOf [impl_OpPlaces_c,impl_told_c,delF_c],36,[0],[(0,[0,1]),(1,[0,1,6]),(2,[0,6]),(3,[0,4,5,31,34,35])],[],[],[],[]⟩) tab_ok mixed Tryz.func119 rfl Tryz.ntmps119 (rvs:=[.tmp 4,.tmp 5]) Tryz.results119 rfl fun hl=>?_
 refine cast (show ((i_0<=zi k/\zi k<zi f.way.length)/\(zi k).toNat<f.way.length/\∃ (b:List FTx×Nat),(q_j f.way b.1/\zi k=zi b.2/\wr_ ((zi k)+i_1)=(zi b.2)+i_1)/\b.2<b.1.length/\∃ (b_1:Opr),((g_FTx f.way k).op.kind=b_1.kind/\(g_FTx f.way k).op.who=b_1.who/\(g_FTx f.way k).op.inn=b_1.inn/\(g_FTx f.way k).op.code=b_1.code/\(g_FTx f.way k).op.sec=b_1.sec/\(g_FTx f.way k).op.fam=b_1.fam/\(g_FTx f.way k).op.gen=b_1.gen)/\∃ (b_2:y_20),(i_3=b_2.1/\(g_FTx f.way k).tx=b_2.2.1/\(i_0=b_2.2.2.1.kind/\i_0=b_2.2.2.1.who/\i_0=b_2.2.2.1.inn/\i_0=b_2.2.2.1.code/\i_0=b_2.2.2.1.sec/\i_0=b_2.2.2.1.fam/\i_0=b_2.2.2.1.gen)/\cnRs (frozenRs (typ i_0 eI (placesL b_1)))=t_I b_2.2.2.2)/\b_2.2.2.2.length<=n_1000/\(((∀ (k:Nat),True/\True/\True/\True/\True/\True/\True/\True/\True/\True/\True/\True)/\True)/\True)/\(q_g (toldF b_2.1 b_2.2.1 b_2.2.2.1 b_2.2.2.2) (noF f k).2.1/\cnRs (raw [[cn_ (g_FTx f.way k).tx,CV.b false]])=t_k (noF f k).2.2)/\q_f f.disk.notes (noF f k).1.disk.notes/\f.disk.safe=(noF f k).1.disk.safe/\q_j (b.1.eraseIdx b.2) (noF f k).1.way)=_ by kernel_rfl) ?_
 delta i_0 i_1 i_3 wr_ zi t_I n_1000 cn_ t_f q_f t_g q_g g_FTx y_20 t_j q_j t_k
 simp only [zza,zzb,true_and,and_true,and_self,ne_eq,cI_app,cWrtO_app,cWrtS_app,cWrtO_1,cItemO_1,opr_ex,zcast,frz_nil,nil_map,Option.getD_none,Option.getD_some]
 have h3:=places_len3 (f.way.getD k dFTx).op
 exact ⟨by omega,by omega,hpre.1,IntWalk.i64_in _ (by omega),hpre.1,by omega,told_send (.inr rfl),rfl,rfl,rfl,rfl⟩
def impl_FroState_abort_c:Con Tryz.prog:=conP [.ptr,.lend] fun (b:Front×Nat) h=>impl_FroState_abort_ok (b.1) (b.2) h
end Go.Proofs.AI
namespace Go.Proofs.AI
open Go.RowKit Go.Proofs
set_option linter.unusedVariables false
set_option linter.unusedSimpArgs false
set_option maxRecDepth 100000
theorem impl_FroState_give_ok (f:Front) (tx:Int) (hpre:okF f):FunOK Tryz.prog 70 2 [0] [(0,⟨.box,cKFrontO f,[]⟩),(1,kI tx)] (·=[(2,⟨.tup [(false,1),(false,1)],[.c (oMsgs (giveF f tx).2.1),.c (oFOuts (giveF f tx).2.2)],[]⟩),(0,⟨.box,cKFrontO (giveF f tx).1,[]⟩)]):=by
 refine fun_to (E:=⟨tab,ctOf [impl_FroState_find_c,impl_FroState_abort_c],27,[0],[(0,[0,1,24,25,26]),(1,[0,6,24,25,26]),(2,[0,6,21,24,25,26]),(3,[0,4,5,24,25,26]),(4,[0,4,5,24,25,26])],[],[],[],[]⟩) tab_ok mixed Tryz.func70 rfl Tryz.ntmps70 (rvs:=[.tmp 4,.tmp 5]) Tryz.results70 rfl fun hl=>?_
 refine cast (show (let k_1:Prop:=(giveF f tx).2.1.length=n_0/\(giveF f tx).2.2.length=n_0;∃ (b:Front×Int),let k_2:Prop:=k_1/\q_f b.1.disk.notes (giveF f tx).1.disk.notes/\b.1.disk.safe=(giveF f tx).1.disk.safe/\q_j b.1.way (giveF f tx).1.way;((q_f f.disk.notes b.1.disk.notes/\f.disk.safe=b.1.disk.safe/\q_j f.way b.1.way)/\tx=b.2)/\(decide (atF b.1.way b.2<i_0)=false->(i_0<=atF b.1.way b.2/\atF b.1.way b.2<zi b.1.way.length)/\(atF b.1.way b.2).toNat<b.1.way.length/\((b.1.way.getD (atF b.1.way b.2).toNat dFTx).yes=true->k_2)/\((b.1.way.getD (atF b.1.way b.2).toNat dFTx).yes=false->∃ (b_1:Front×Nat),((q_f b.1.disk.notes b_1.1.disk.notes/\b.1.disk.safe=b_1.1.disk.safe/\q_j b.1.way b_1.1.way)/\atF b.1.way b.2=zi b_1.2)/\(b_1.2<b_1.1.way.length/\b_1.1.way.length<=n_1000)/\(q_g (noF b_1.1 b_1.2).2.1 (giveF f tx).2.1/\q_k (noF b_1.1 b_1.2).2.2 (giveF f tx).2.2)/\q_f (noF b_1.1 b_1.2).1.disk.notes (giveF f tx).1.disk.notes/\(noF b_1.1 b_1.2).1.disk.safe=(giveF f tx).1.disk.safe/\q_j (noF b_1.1 b_1.2).1.way (giveF f tx).1.way))/\(decide (atF b.1.way b.2<i_0)=true->k_2))=_ by kernel_rfl) ?_
 delta i_0 zi n_0 n_1000 t_f q_f t_g q_g t_j q_j t_k q_k
 simp only [zza,zzb,true_and,and_true,and_self,ne_eq,cI_app,cWrtO_app,cWrtS_app,cWrtO_1,cItemO_1,opr_ex,zcast,frz_nil,nil_map,wayEq_self,Option.getD_none,Option.getD_some]
 have hat:=fun h=>atF_lt (w:=f.way) (tx:=tx) h
 have hw:=hpre.wl
 simp only [giveF,froB_iff.2 hpre,if_true]
 generalize atF f.way tx=A at *
 refine ⟨fun h1=>⟨by omega,by have:=(hat (by omega)).1;omega,(hat (by omega)).1,fun h2=>?_,fun h2=>?_⟩,fun h1=>?_⟩
 ·rw [if_pos (.inr h2)];exact ⟨rfl,rfl,rfl,rfl,rfl⟩
 ·rw [if_neg (fun h=>h.elim h1 (fun h3=>by rw [show yesAt f A=false from h2] at h3;cases h3))]
  exact ⟨A.toNat,by omega,(hat (by omega)).1,by omega,rfl,rfl,rfl,rfl,rfl⟩
 ·rw [if_pos (.inl h1)];exact ⟨rfl,rfl,rfl,rfl,rfl⟩
def impl_FroState_give_c:Con Tryz.prog:=conP [.ptr,.lend] fun (b:Front×Int) h=>impl_FroState_give_ok (b.1) (b.2) h
theorem impl_FroGive_ok (f:Front) (tx:Int):FunOK Tryz.prog 18 2 [] [(0,kFrontS f),(1,kI tx)] (·=[(2,⟨.tup [(true,3),(false,1),(false,1)],[.c (oNotes (giveF f tx).1.disk.notes),.c (.n .i64 (giveF f tx).1.disk.safe),.c (oFTxs (giveF f tx).1.way),.c (oMsgs (giveF f tx).2.1),.c (oFOuts (giveF f tx).2.2)],[]⟩)]):=by
 refine fun_to (E:=⟨tab,ctOf [impl_FroOk_c,impl_FroState_copied_c,impl_FroState_give_c],24,[],[(0,[1,2,4,7,8,9,13,16,18,19,20,21,22,23]),(1,[1,2,4,7,8,9,12,13,16,18,19,20,21,22,23]),(2,[4,5,6,7,8,9,13,16,18,19,20,21,22,23]),(3,[1,4,7,13,21]),(4,[4,7,8,9,13,16,18,19,20,21]),(5,[4,5,6,7,8,9,13,16,18,19,20,21,22,23])],[],[(5,[(1000001,[]),(1000002,[])])],[],[]⟩) tab_ok mixed Tryz.func18 rfl Tryz.ntmps18 (rvs:=[.cell 4 28,.tmp 5,.tmp 6]) Tryz.results18 rfl fun hl=>?_
 refine cast (show (∃ (b:Front),(q_e f.disk.notes b.disk.notes/\f.disk.safe=b.disk.safe/\q_h f.way b.way)/\((!froB b)=true->cnRs nilR=t_f (giveF f tx).1.disk.notes/\i_0=(giveF f tx).1.disk.safe/\cnRs nilR=t_j (giveF f tx).1.way/\(giveF f tx).2.1.length=n_0/\(giveF f tx).2.2.length=n_0)/\((!froB b)=false->∃ (b:Front),(q_e f.disk.notes b.disk.notes/\f.disk.safe=b.disk.safe/\q_h f.way b.way)/\smallF b/\∃ (b_1:Front×Int),((q_f b.disk.notes b_1.1.disk.notes/\b.disk.safe=b_1.1.disk.safe/\q_j b.way b_1.1.way)/\tx=b_1.2)/\okF b_1.1/\q_f (giveF b_1.1 b_1.2).1.disk.notes (giveF f tx).1.disk.notes/\(giveF b_1.1 b_1.2).1.disk.safe=(giveF f tx).1.disk.safe/\q_j (giveF b_1.1 b_1.2).1.way (giveF f tx).1.way/\q_g (giveF b_1.1 b_1.2).2.1 (giveF f tx).2.1/\q_k (giveF b_1.1 b_1.2).2.2 (giveF f tx).2.2))=_ by kernel_rfl) ?_
 delta i_0 n_0 t_e q_e t_f q_f t_g q_g t_h q_h t_j q_j t_k q_k
 simp only [zza,zzb,true_and,and_true,and_self,ne_eq,cI_app,cWrtO_app,cWrtS_app,cWrtO_1,cItemO_1,opr_ex,zcast,frz_nil,nil_map,wayEq_self,Option.getD_none,Option.getD_some]
 refine ⟨fun h=>?_,fun h=>?_⟩
 ·simp at h;simp [giveF,h]
 ·have h:froB f=true:=by simpa only [Bool.not_eq_false'] using h
  exact ⟨(froB_iff.1 h).small,froB_iff.1 h⟩
def impl_FroGive_c:Con Tryz.prog:=con0 [.lend,.lend] fun b:Front×Int=>impl_FroGive_ok (b.1) (b.2)
theorem laws_jaOuts_ok (a:List FOut) (b:List FOut):FunOK Tryz.prog 46 2 [] [(0,k1 (sFOuts a)),(1,k1 (sFOuts b))] (·=[(2,kB (decide (a=b)))]):=by
 refine fun_to (E:=⟨tab,ctOf [],26,[],[(0,[0,1]),(1,[0,1,10]),(2,[4]),(3,[0,1,5]),(4,[0,1,5,14]),(5,[0,1,5]),(6,[0,1,5,25]),(7,[4]),(8,[4])],[(0,⟨Nat,fun x=>[(0,(k1 (.sh 79 (typ dFOut eFOut a)))),(1,(k1 (.sh 79 (typ dFOut eFOut b)))),(5,(k1 (.n .i64 (x:Int))))]⟩)],[],[],[]⟩) tab_ok mixed Tryz.func46 rfl Tryz.ntmps46 (rvs:=[.tmp 4]) Tryz.results46 rfl fun hl=>?_
 refine cast (show ((((zi a.length) != zi b.length)=true->false=decide (a=b))/\(((zi a.length) != zi b.length)=false->∃ (pre:Nat->Prop),∃ (μ:Nat->Nat),∃ (x0:Nat),(q_k a a/\q_k b b/\i_0=zi x0)/\pre x0/\∀ (x:Nat),pre x->(decide (zi x<zi a.length)=true->(i_0<=zi x/\zi x<zi a.length)/\(i_0<=zi x/\zi x<zi b.length)/\((if true=true then !((g_FOut a x).tx==(g_FOut b x).tx&&(g_FOut a x).ok==(g_FOut b x).ok) else (g_FOut a x).tx==(g_FOut b x).tx&&(g_FOut a x).ok==(g_FOut b x).ok)=true->false=decide (a=b))/\((if true=true then !((g_FOut a x).tx==(g_FOut b x).tx&&(g_FOut a x).ok==(g_FOut b x).ok) else (g_FOut a x).tx==(g_FOut b x).tx&&(g_FOut a x).ok==(g_FOut b x).ok)=false->∃ (y:Nat),(q_k a a/\q_k b b/\wr_ ((zi x)+i_1)=zi y)/\pre y/\μ y<μ x))/\(decide (zi x<zi a.length)=false->true=decide (a=b))))=_ by kernel_rfl) ?_
 delta i_0 i_1 wr_ zi t_k q_k g_FOut
 simp only [zza,zzb,true_and,and_true,and_self,ne_eq,cI_app,cWrtO_app,cWrtS_app,cWrtO_1,cItemO_1,opr_ex,zcast,frz_nil,nil_map,wayEq_self,Option.getD_none,Option.getD_some]
 have hx:a.length<=9223372036854775807:=hl.1 (.c (sFOuts a)) (by simp)
 simp only [if_true]
 refine ⟨fun h=>?_,fun h=>?_⟩
 ·exact (decide_eq_false fun he=>h (by rw [he])).symm
 have hlen:=len_ne h
 refine ⟨fun i=>i<=a.length/\∀ j,j<i->a.getD j dFOut=b.getD j dFOut,⟨by omega,fun j hj=>absurd hj (Nat.not_lt_zero _)⟩,fun i=>a.length-i,fun i hp=>?_⟩
 obtain ⟨h1,h2⟩:=hp
 refine ⟨fun hlt=>⟨by omega,hlt,by omega,by omega,fun e=>?_,fun e=>⟨i+1,wrapN (by omega),⟨by omega,below_succ h2 (FOut_ext (by simp at e;exact e.1) (by simp at e;exact e.2))⟩,by simp only;omega⟩⟩,fun hge=>?_⟩
 ·exact (decide_eq_false fun he=>by subst he;simp at e).symm
 ·exact (decide_eq_true (ext_getD (d:=dFOut) hlen fun j hj=>h2 j (by omega))).symm
def laws_jaOuts_c:Con Tryz.prog:=con0 [.lend,.lend] fun b:List FOut×List FOut=>laws_jaOuts_ok (b.1) (b.2)
theorem laws_jaFront_ok (a:Front) (b:Front):FunOK Tryz.prog 37 2 [] [(0,kFrontS a),(1,kFrontS b)] (·=[(2,kB (decide (a=b)))]):=by
 refine fun_to (E:=⟨tabM,ctOf [laws_jaDisk_c,laws_jaInts_c],75,[],[(0,[2,3]),(1,[2,3,22]),(2,[4]),(3,[2,3,5]),(4,[2,3,5,27]),(5,[2,3,5]),(6,[2,3,5,6]),(7,[2,3,5,6,7]),(8,[2,3,5,74]),(9,[4]),(10,[4])],[(0,⟨List Note×Int×List FTx×Nat,fun x=>[(2,⟨.box,[.c (.sh 72 (typ dNote eNoteS a.disk.notes)),.c (.n .i64 a.disk.safe),.c (.sh 36 (typ dFTx eFTxS a.way))],[]⟩),(3,⟨.box,[.c (sNotes (x.1)),.c (.n .i64 (x.2.1)),.c (sFTxs (x.2.2.1))],[]⟩),(5,(k1 (.n .i64 (x.2.2.2:Int))))]⟩)],[],[],[]⟩) tabM_ok mixed Tryz.func37 rfl Tryz.ntmps37 (rvs:=[.tmp 4]) Tryz.results37 rfl fun hl=>?_
 refine cast (show (let k_1:Prop:=q_e a.disk.notes a.disk.notes/\a.disk.safe=a.disk.safe/\q_h a.way a.way;∃ (b_1:Disk×Disk),((q_e a.disk.notes b_1.1.notes/\a.disk.safe=b_1.1.safe)/\q_e b.disk.notes b_1.2.notes/\b.disk.safe=b_1.2.safe)/\((!decide (b_1.1=b_1.2))=false->(((zi a.way.length) != zi b.way.length)=true->false=decide (a=b))/\(((zi a.way.length) != zi b.way.length)=false->∃ (pre:y_22->Prop),∃ (μ:y_22->Nat),∃ (x0:y_22),(k_1/\(q_e b.disk.notes x0.1/\b.disk.safe=x0.2.1/\q_h b.way x0.2.2.1)/\i_0=zi x0.2.2.2)/\pre x0/\(∀ (x:y_22),pre x->(decide (zi x.2.2.2<zi a.way.length)=true->(i_0<=zi x.2.2.2/\zi x.2.2.2<zi a.way.length)/\(i_0<=zi x.2.2.2/\zi x.2.2.2<zi x.2.2.1.length)/\(((g_FTx a.way x.2.2.2).tx != (g_FTx x.2.2.1 x.2.2.2).tx)=false->((if true=true then !((g_FTx a.way x.2.2.2).op.kind==(g_FTx x.2.2.1 x.2.2.2).op.kind&&((g_FTx a.way x.2.2.2).op.who==(g_FTx x.2.2.1 x.2.2.2).op.who&&((g_FTx a.way x.2.2.2).op.inn==(g_FTx x.2.2.1 x.2.2.2).op.inn&&((g_FTx a.way x.2.2.2).op.code==(g_FTx x.2.2.1 x.2.2.2).op.code&&((g_FTx a.way x.2.2.2).op.sec==(g_FTx x.2.2.1 x.2.2.2).op.sec&&((g_FTx a.way x.2.2.2).op.fam==(g_FTx x.2.2.1 x.2.2.2).op.fam&&(g_FTx a.way x.2.2.2).op.gen==(g_FTx x.2.2.1 x.2.2.2).op.gen)))))) else (g_FTx a.way x.2.2.2).op.kind==(g_FTx x.2.2.1 x.2.2.2).op.kind&&((g_FTx a.way x.2.2.2).op.who==(g_FTx x.2.2.1 x.2.2.2).op.who&&((g_FTx a.way x.2.2.2).op.inn==(g_FTx x.2.2.1 x.2.2.2).op.inn&&((g_FTx a.way x.2.2.2).op.code==(g_FTx x.2.2.1 x.2.2.2).op.code&&((g_FTx a.way x.2.2.2).op.sec==(g_FTx x.2.2.1 x.2.2.2).op.sec&&((g_FTx a.way x.2.2.2).op.fam==(g_FTx x.2.2.1 x.2.2.2).op.fam&&(g_FTx a.way x.2.2.2).op.gen==(g_FTx x.2.2.1 x.2.2.2).op.gen))))))=false->((if true=true then !(g_FTx a.way x.2.2.2).yes==(g_FTx x.2.2.1 x.2.2.2).yes else (g_FTx a.way x.2.2.2).yes==(g_FTx x.2.2.1 x.2.2.2).yes)=false->∃ (b_2:y_10),(q_I (g_FTx a.way x.2.2.2).can b_2.1/\q_I (g_FTx x.2.2.1 x.2.2.2).can b_2.2)/\((!decide (b_2.1=b_2.2))=false->∃ (b_3:y_10),(q_I (g_FTx a.way x.2.2.2).know b_3.1/\q_I (g_FTx x.2.2.1 x.2.2.2).know b_3.2)/\((!decide (b_3.1=b_3.2))=true->false=decide (a=b))/\((!decide (b_3.1=b_3.2))=false->∃ (y:y_22),(k_1/\(q_e x.1 y.1/\x.2.1=y.2.1/\q_h x.2.2.1 y.2.2.1)/\wr_ ((zi x.2.2.2)+i_1)=zi y.2.2.2)/\pre y/\μ y<μ x))/\((!decide (b_2.1=b_2.2))=true->false=decide (a=b)))/\((if true=true then !(g_FTx a.way x.2.2.2).yes==(g_FTx x.2.2.1 x.2.2.2).yes else (g_FTx a.way x.2.2.2).yes==(g_FTx x.2.2.1 x.2.2.2).yes)=true->false=decide (a=b)))/\((if true=true then !((g_FTx a.way x.2.2.2).op.kind==(g_FTx x.2.2.1 x.2.2.2).op.kind&&((g_FTx a.way x.2.2.2).op.who==(g_FTx x.2.2.1 x.2.2.2).op.who&&((g_FTx a.way x.2.2.2).op.inn==(g_FTx x.2.2.1 x.2.2.2).op.inn&&((g_FTx a.way x.2.2.2).op.code==(g_FTx x.2.2.1 x.2.2.2).op.code&&((g_FTx a.way x.2.2.2).op.sec==(g_FTx x.2.2.1 x.2.2.2).op.sec&&((g_FTx a.way x.2.2.2).op.fam==(g_FTx x.2.2.1 x.2.2.2).op.fam&&(g_FTx a.way x.2.2.2).op.gen==(g_FTx x.2.2.1 x.2.2.2).op.gen)))))) else (g_FTx a.way x.2.2.2).op.kind==(g_FTx x.2.2.1 x.2.2.2).op.kind&&((g_FTx a.way x.2.2.2).op.who==(g_FTx x.2.2.1 x.2.2.2).op.who&&((g_FTx a.way x.2.2.2).op.inn==(g_FTx x.2.2.1 x.2.2.2).op.inn&&((g_FTx a.way x.2.2.2).op.code==(g_FTx x.2.2.1 x.2.2.2).op.code&&((g_FTx a.way x.2.2.2).op.sec==(g_FTx x.2.2.1 x.2.2.2).op.sec&&((g_FTx a.way x.2.2.2).op.fam==(g_FTx x.2.2.1 x.2.2.2).op.fam&&(g_FTx a.way x.2.2.2).op.gen==(g_FTx x.2.2.1 x.2.2.2).op.gen))))))=true->false=decide (a=b)))/\(((g_FTx a.way x.2.2.2).tx != (g_FTx x.2.2.1 x.2.2.2).tx)=true->false=decide (a=b)))/\(decide (zi x.2.2.2<zi a.way.length)=false->true=decide (a=b)))))/\((!decide (b_1.1=b_1.2))=true->false=decide (a=b)))=_ by kernel_rfl) ?_
 delta i_0 i_1 wr_ zi t_I q_I y_10 t_e q_e g_FTx t_h q_h y_22
 simp only [zza,zzb,true_and,and_true,and_self,ne_eq,cI_app,cWrtO_app,cWrtS_app,cWrtO_1,cItemO_1,opr_ex,zcast,frz_nil,nil_map,wayEq_self,Option.getD_none,Option.getD_some]
 have hx:a.way.length<=9223372036854775807:=hl.1 (.c (sFTxs a.way)) (by simp)
 simp only [if_true]
 refine ⟨fun h1=>⟨fun h2=>?_,fun h2=>?_⟩,fun h1=>?_⟩
 ·exact (decide_eq_false fun he=>h2 (by rw [he])).symm
 rotate_left
 ·exact (decide_eq_false fun he=>by subst he;simp at h1).symm
 have hd:a.disk=b.disk:=by simpa using h1
 have hlen:=len_ne h2
 refine ⟨fun z=>z.1=b.disk.notes/\z.2.1=b.disk.safe/\z.2.2.1=b.way/\z.2.2.2<=a.way.length/\∀ j,j<z.2.2.2->a.way.getD j dFTx=b.way.getD j dFTx,⟨rfl,rfl,rfl,by simp only;omega,fun j hj=>absurd hj (Nat.not_lt_zero _)⟩,fun z=>a.way.length-z.2.2.2,fun c1 c2 c3 i hp=>?_⟩
 simp only at hp
 obtain ⟨rfl,rfl,rfl,h3,h4⟩:=hp
 have no:a.way.getD i dFTx≠b.way.getD i dFTx->false=decide (a=b):=fun h=>(decide_eq_false fun he=>h (by rw [he])).symm
 have go:i<a.way.length->a.way.getD i dFTx=b.way.getD i dFTx->∃ x:Nat,IntKind.i64.wrap ((i:Int)+1)=(x:Int)/\(b.disk.notes=b.disk.notes/\b.disk.safe=b.disk.safe/\b.way=b.way/\x<=a.way.length/\∀ j,j<x->a.way.getD j dFTx=b.way.getD j dFTx)/\a.way.length-x<a.way.length-i:=fun hlt e =>
  ⟨i+1,wrapN (by omega),⟨rfl,rfl,rfl,by omega,below_succ h4 e⟩,by omega⟩
 refine ⟨fun hlt=>⟨by omega,hlt,by omega,by omega,?_⟩,fun hge=>(decide_eq_true (Front_ext hd (ext_getD (d:=dFTx) hlen fun j hj=>h4 j (by omega)))).symm⟩
 have go:=go (by omega)
 clear h4
 generalize a.way.getD i dFTx=X at *
 generalize b.way.getD i dFTx=Y at *
 refine ⟨fun e1=>⟨fun e2=>⟨fun e3=>⟨fun e4=>⟨fun e5=>no ?_,fun e5=>go ?_⟩,fun e4=>no ?_⟩,fun e3=>no ?_⟩,fun e2=>no ?_⟩,fun e1=>no ?_⟩
 ·rintro rfl;simp at e5
 ·obtain ⟨x1,⟨k1,k2,k3,k4,k5,k6,k7⟩,x3,x4,x5⟩:=X
  obtain ⟨y1,⟨l1,l2,l3,l4,l5,l6,l7⟩,y3,y4,y5⟩:=Y
  simp at e1 e2 e3 e4 e5
  simp [e1,e2,e3,e4,e5]
 ·rintro rfl;simp at e4
 ·rintro rfl;simp at e3
 ·rintro rfl;simp at e2
 ·rintro rfl;simp at e1
def laws_jaFront_c:Con Tryz.prog:=con0 [.lend,.lend] fun b:Front×Front=>laws_jaFront_ok (b.1) (b.2)
end Go.Proofs.AI
namespace Go.Proofs.AI
open Go.RowKit Go.Proofs
set_option linter.unusedVariables false
set_option linter.unusedSimpArgs false
set_option maxRecDepth 100000
def giveDr (l:List Int):Front×Int :=
 let a:=frontD l 0 9
 if 0<a.1.way.length then (if 0<pickB l a.2 3 then (a.1,(a.1.way.getD (pickB l (a.2+1) a.1.way.length).toNat dFTx).tx) else (a.1,pickB l (a.2+1) 12-1)) else (a.1,pickB l a.2 12-1)
theorem spec_DrawFroGive_ok (l:List Int) (hpre:okU l):FunOK Tryz.prog 45 1 [] [(0,k1 (sU l))] (·=[(1,⟨.tup [(true,3),(false,1)],[.c (oNotes (giveDr (l.take 2000)).1.disk.notes),.c (.n .i64 (giveDr (l.take 2000)).1.disk.safe),.c (oFTxs (giveDr (l.take 2000)).1.way),.c (.n .i64 (giveDr (l.take 2000)).2)],[]⟩)]):=by
 refine fun_to (E:=⟨tab,ctOf [spec_l20Front_c,spec_l20Open_c,spec_rd_pick_c],34,[],[(0,[0,2,5,19,30]),(1,[2,4,5,7,19,30]),(2,[2,4,5,7,19,30]),(3,[2,4,5,7,18,19,30]),(4,[2,3,5,19,30]),(5,[2,3,5,19,30])],[],[],[],[]⟩) tab_ok mixed Tryz.func45 rfl Tryz.ntmps45 (rvs:=[.cell 2 28,.tmp 3]) Tryz.results45 rfl fun hl=>?_
 refine cast (show (∃ (b:List Int),q_U l b/\(∃ (b_1:y_6),let k_3:Prop:=q_j (frontD b_1.1 b_1.2.1 b_1.2.2).1.way (giveDr (List.take n_2000 l)).1.way;let k_2:Prop:=(frontD b_1.1 b_1.2.1 b_1.2.2).1.disk.safe=(giveDr (List.take n_2000 l)).1.disk.safe;let k_1:Prop:=q_f (frontD b_1.1 b_1.2.1 b_1.2.2).1.disk.notes (giveDr (List.take n_2000 l)).1.disk.notes;((q_U (List.take n_2000 b) b_1.1/\zi n_0=zi b_1.2.1)/\i_9=b_1.2.2)/\(rdB b_1.1 b_1.2.1 n_4000/\b_1.2.2<i_1000000)/\(decide ((zi (frontD b_1.1 b_1.2.1 b_1.2.2).1.way.length)>i_0)=true->∃ (b:y_6),((q_U b_1.1 b.1/\(zi (frontD b_1.1 b_1.2.1 b_1.2.2).2)=zi b.2.1)/\i_3=b.2.2)/\rdB b.1 b.2.1 n_1/\(decide (pickB b.1 b.2.1 b.2.2>i_0)=true->∃ (b_2:y_6),((q_U b.1 b_2.1/\(zi (b.2.1+n_1))=zi b_2.2.1)/\(zi (frontD b_1.1 b_1.2.1 b_1.2.2).1.way.length)=b_2.2.2)/\rdB b_2.1 b_2.2.1 n_1/\(i_0<=pickB b_2.1 b_2.2.1 b_2.2.2/\pickB b_2.1 b_2.2.1 b_2.2.2<(zi (frontD b_1.1 b_1.2.1 b_1.2.2).1.way.length))/\(pickB b_2.1 b_2.2.1 b_2.2.2).toNat<(frontD b_1.1 b_1.2.1 b_1.2.2).1.way.length/\k_1/\k_2/\k_3/\((frontD b_1.1 b_1.2.1 b_1.2.2).1.way.getD (pickB b_2.1 b_2.2.1 b_2.2.2).toNat dFTx).tx=(giveDr (List.take n_2000 l)).2)/\(decide (pickB b.1 b.2.1 b.2.2>i_0)=false->∃ (b_2:y_6),((q_U b.1 b_2.1/\(zi (b.2.1+n_1))=zi b_2.2.1)/\i_12=b_2.2.2)/\rdB b_2.1 b_2.2.1 n_1/\k_1/\k_2/\k_3/\wr_ (pickB b_2.1 b_2.2.1 b_2.2.2-i_1)=(giveDr (List.take n_2000 l)).2))/\(decide ((zi (frontD b_1.1 b_1.2.1 b_1.2.2).1.way.length)>i_0)=false->∃ (b:y_6),((q_U b_1.1 b.1/\(zi (frontD b_1.1 b_1.2.1 b_1.2.2).2)=zi b.2.1)/\i_12=b.2.2)/\rdB b.1 b.2.1 n_1/\k_1/\k_2/\k_3/\wr_ (pickB b.1 b.2.1 b.2.2-i_1)=(giveDr (List.take n_2000 l)).2)))=_ by kernel_rfl) ?_
 delta i_0 i_9 i_1 i_3 wr_ zi n_0 n_1 i_1000000 t_U q_U n_2000 y_6 i_12 t_f q_f t_j q_j n_4000
 simp only [zza,zzb,true_and,and_true,and_self,ne_eq,cI_app,cWrtO_app,cWrtS_app,cWrtO_1,cItemO_1,opr_ex,zcast,frz_nil,nil_map,wayEq_self,Option.getD_none,Option.getD_some]
 have hr:rdB (l.take 2000) 0 4000:=⟨fun x hx=>hpre x (List.mem_of_mem_take hx),by omega⟩
 generalize l.take 2000=L at *
 have hd:=frontD_le 9 hr
 simp only [giveDr]
 generalize frontD L 0 9=A at *
 have b:=pick_lt (l:=L) (p:=A.2) (n:=12) (rdB_le hr (by omega):rdB L A.2 1) (by omega)
 have b1:=pick_lt (l:=L) (p:=A.2+1) (n:=12) (rdB_le hr (by omega):rdB L (A.2+1) 1) (by omega)
 refine ⟨hr,by omega,fun h1=>⟨rdB_le hr (by omega),fun h2=>?_,fun h2=>?_⟩,fun h1=>?_⟩
 ·have h1:0<A.1.way.length:=by omega
  have b2:=pick_lt (l:=L) (p:=A.2+1) (n:=(A.1.way.length:Int)) (rdB_le hr (by omega):rdB L (A.2+1) 1) (by omega)
  simp only [if_pos h1,if_pos h2]
  exact ⟨rdB_le hr (by omega),b2.1,b2.2,by omega,trivial,trivial,trivial,trivial⟩
 ·have h1:0<A.1.way.length:=by omega
  simp only [if_pos h1,if_neg h2]
  exact ⟨rdB_le hr (by omega),trivial,trivial,trivial,IntWalk.i64_in _ (by omega)⟩
 ·have h1:¬ 0<A.1.way.length:=by omega
  simp only [if_neg h1]
  exact ⟨rdB_le hr (by omega),trivial,trivial,trivial,IntWalk.i64_in _ (by omega)⟩
def spec_DrawFroGive_c:Con Tryz.prog:=conP [.lend] fun (b:List Int) h=>spec_DrawFroGive_ok b h
end Go.Proofs.AI
namespace Go.Proofs.AI
open Go.RowKit Go.Proofs
set_option linter.unusedVariables false
set_option linter.unusedSimpArgs false
set_option maxRecDepth 100000
set_option pp.deepTerms true
set_option pp.maxSteps 40000
theorem laws_FnFroGive_ok (l:List Int) (hpre:okU l):FunOK Tryz.prog 8 1 [] [(0,k1 (sU l))] (·=[(1,kB true)]):=by
 refine fun_to (E:=⟨tab,ctOf [impl_FroOk_c,spec_FroOk_c,laws_jaOk_c,spec_FroGive_c,impl_FroGive_c,laws_jaMsgs_c,impl_OpPlaces_c,laws_jaFront_c,laws_jaDisk_c,spec_DrawFroGive_c,laws_jaOuts_c],146,[],[(0,[0]),(1,[0,14]),(2,[2]),(3,[3,4]),(4,[3,4,5,6,7,20,23,25,26]),(5,[3,4,5,6,7,8,9,10,20,23,25,26,27,30,32,33]),(6,[3,4,5,6,7,20,23,25,26,49]),(7,[2]),(8,[3,4,5,6,7,20,23,25,26,52]),(9,[2]),(10,[3,4,5,6,7,11,20,23,25,26]),(11,[3,4,5,6,7,11,20,23,25,26,70]),(12,[3,4,5,6,7,11,20,23,25,26]),(13,[3,4,5,6,7,11,20,23,25,26,89]),(14,[2]),(15,[2])],[(0,⟨Nat,fun x=>[(3,⟨.box,[.c (.sh 72 (frozenRs (typ dNote eNoteO (giveDr (List.take (2000:Nat) l)).fst.disk.notes))),.c (.n .i64 ((giveDr (List.take (2000:Nat) l)).fst.disk.safe)),.c (.sh 36 (frozenRs (typ dFTx eFTxO (giveDr (List.take (2000:Nat) l)).fst.way)))],[]⟩),(4,(k1 (.n .i64 ((giveDr (List.take (2000:Nat) l)).snd)))),(5,⟨.box,[.c (.sh 72 (frozenRs (typ dNote eNoteO (giveF (giveDr (List.take (2000:Nat) l)).fst (giveDr (List.take (2000:Nat) l)).snd).fst.disk.notes))),.c (.n .i64 ((giveF (giveDr (List.take (2000:Nat) l)).fst (giveDr (List.take (2000:Nat) l)).snd).fst.disk.safe)),.c (.sh 36 (frozenRs (typ dFTx eFTxO (giveF (giveDr (List.take (2000:Nat) l)).fst (giveDr (List.take (2000:Nat) l)).snd).fst.way)))],[]⟩),(6,(k1 (.sh 63 (frozenRs (typ dMsg eMsg (giveF (giveDr (List.take (2000:Nat) l)).fst (giveDr (List.take (2000:Nat) l)).snd).snd.fst))))),(7,(k1 (.sh 79 (frozenRs (typ dFOut eFOut (giveF (giveDr (List.take (2000:Nat) l)).fst (giveDr (List.take (2000:Nat) l)).snd).snd.snd))))),(11,(k1 (.n .i64 (x:Int)))),(20,⟨.tup [(true,(3:Nat)),(false,(1:Nat)),(false,(1:Nat))],[.c (.sh 72 (frozenRs (typ dNote eNoteO (giveF (giveDr (List.take (2000:Nat) l)).fst (giveDr (List.take (2000:Nat) l)).snd).fst.disk.notes))),.c (.n .i64 ((giveF (giveDr (List.take (2000:Nat) l)).fst (giveDr (List.take (2000:Nat) l)).snd).fst.disk.safe)),.c (.sh 36 (frozenRs (typ dFTx eFTxO (giveF (giveDr (List.take (2000:Nat) l)).fst (giveDr (List.take (2000:Nat) l)).snd).fst.way))),.c (.sh 63 (frozenRs (typ dMsg eMsg (giveF (giveDr (List.take (2000:Nat) l)).fst (giveDr (List.take (2000:Nat) l)).snd).snd.fst))),.c (.sh 79 (frozenRs (typ dFOut eFOut (giveF (giveDr (List.take (2000:Nat) l)).fst (giveDr (List.take (2000:Nat) l)).snd).snd.snd)))],[]⟩),(23,⟨.tup [(true,(3:Nat)),(false,(1:Nat)),(false,(1:Nat))],[.c (.sh 72 (frozenRs (typ dNote eNoteO (giveF (giveDr (List.take (2000:Nat) l)).fst (giveDr (List.take (2000:Nat) l)).snd).fst.disk.notes))),.c (.n .i64 ((giveF (giveDr (List.take (2000:Nat) l)).fst (giveDr (List.take (2000:Nat) l)).snd).fst.disk.safe)),.c (.sh 36 (frozenRs (typ dFTx eFTxO (giveF (giveDr (List.take (2000:Nat) l)).fst (giveDr (List.take (2000:Nat) l)).snd).fst.way))),.c (.sh 63 (frozenRs (typ dMsg eMsg (giveF (giveDr (List.take (2000:Nat) l)).fst (giveDr (List.take (2000:Nat) l)).snd).snd.fst))),.c (.sh 79 (frozenRs (typ dFOut eFOut (giveF (giveDr (List.take (2000:Nat) l)).fst (giveDr (List.take (2000:Nat) l)).snd).snd.snd)))],[]⟩),(25,(k1 (.sh 63 (frozenRs (typ dMsg eMsg (giveF (giveDr (List.take (2000:Nat) l)).fst (giveDr (List.take (2000:Nat) l)).snd).snd.fst))))),(26,(k1 (.sh 79 (frozenRs (typ dFOut eFOut (giveF (giveDr (List.take (2000:Nat) l)).fst (giveDr (List.take (2000:Nat) l)).snd).snd.snd)))))]⟩)],[(3,[(2,[17])]),(4,[(3,[23])]),(5,[(3,[30])]),(6,[(1000006,[]),(1000012,[])]),(9,[(1000003,[]),(1000006,[])]),(14,[(1000018,[]),(1000026,[])]),(15,[(1000004,[]),(1000006,[])])],[],[]⟩) tab_ok mixed Tryz.func8 rfl Tryz.ntmps8 (rvs:=[.tmp 2]) Tryz.results8 rfl fun hl=>?_
 refine cast (show (let k_11:Prop:=(giveDr (List.take n_2000 l)).2=(giveDr (List.take n_2000 l)).2;let k_10:Prop:=(giveF (giveDr (List.take n_2000 l)).1 (giveDr (List.take n_2000 l)).2).1.disk.safe=(giveF (giveDr (List.take n_2000 l)).1 (giveDr (List.take n_2000 l)).2).1.disk.safe;let k_9:Prop:=cnRs (frozenRs (typ dMsg eMsg (giveF (giveDr (List.take n_2000 l)).1 (giveDr (List.take n_2000 l)).2).2.1))=cnRs (frozenRs (typ dMsg eMsg (giveF (giveDr (List.take n_2000 l)).1 (giveDr (List.take n_2000 l)).2).2.1));let k_8:Prop:=cnRs (frozenRs (typ dFOut eFOut (giveF (giveDr (List.take n_2000 l)).1 (giveDr (List.take n_2000 l)).2).2.2))=cnRs (frozenRs (typ dFOut eFOut (giveF (giveDr (List.take n_2000 l)).1 (giveDr (List.take n_2000 l)).2).2.2));let k_7:Prop:=cnRs (frozenRs (typ dFTx eFTxO (giveF (giveDr (List.take n_2000 l)).1 (giveDr (List.take n_2000 l)).2).1.way))=cnRs (frozenRs (typ dFTx eFTxO (giveF (giveDr (List.take n_2000 l)).1 (giveDr (List.take n_2000 l)).2).1.way));let k_6:Prop:=cnRs (frozenRs (typ dNote eNoteO (giveF (giveDr (List.take n_2000 l)).1 (giveDr (List.take n_2000 l)).2).1.disk.notes))=cnRs (frozenRs (typ dNote eNoteO (giveF (giveDr (List.take n_2000 l)).1 (giveDr (List.take n_2000 l)).2).1.disk.notes));let k_5:Prop:=cnRs (frozenRs (typ dNote eNoteO (giveDr (List.take n_2000 l)).1.disk.notes))=cnRs (frozenRs (typ dNote eNoteO (giveDr (List.take n_2000 l)).1.disk.notes))/\(giveDr (List.take n_2000 l)).1.disk.safe=(giveDr (List.take n_2000 l)).1.disk.safe/\cnRs (frozenRs (typ dFTx eFTxO (giveDr (List.take n_2000 l)).1.way))=cnRs (frozenRs (typ dFTx eFTxO (giveDr (List.take n_2000 l)).1.way));let k_4:Prop:=k_9/\k_8;let k_3:Prop:=k_6/\k_10/\k_7;let k_2:Prop:=k_6/\k_10/\k_7/\k_4;let k_1:Prop:=k_2/\k_2/\k_4;(decide ((zi l.length)>i_1048576)=true->true=true)/\(decide ((zi l.length)>i_1048576)=false->∃ (b:List Int),q_U l b/\okU b/\(∃ (b_1:Front×Int),let k_18:Prop:=(giveF b_1.1 b_1.2).1.disk.safe=(giveF (giveDr (List.take n_2000 l)).1 (giveDr (List.take n_2000 l)).2).1.disk.safe;let k_17:Prop:=cnRs (frozenRs (typ dMsg eMsg (giveF b_1.1 b_1.2).2.1))=cnRs (frozenRs (typ dMsg eMsg (giveF (giveDr (List.take n_2000 l)).1 (giveDr (List.take n_2000 l)).2).2.1));let k_16:Prop:=cnRs (frozenRs (typ dFOut eFOut (giveF b_1.1 b_1.2).2.2))=cnRs (frozenRs (typ dFOut eFOut (giveF (giveDr (List.take n_2000 l)).1 (giveDr (List.take n_2000 l)).2).2.2));let k_15:Prop:=cnRs (frozenRs (typ dFTx eFTxO (giveF b_1.1 b_1.2).1.way))=cnRs (frozenRs (typ dFTx eFTxO (giveF (giveDr (List.take n_2000 l)).1 (giveDr (List.take n_2000 l)).2).1.way));let k_14:Prop:=cnRs (frozenRs (typ dNote eNoteO (giveF b_1.1 b_1.2).1.disk.notes))=cnRs (frozenRs (typ dNote eNoteO (giveF (giveDr (List.take n_2000 l)).1 (giveDr (List.take n_2000 l)).2).1.disk.notes));let k_13:Prop:=k_17/\k_16;let k_12:Prop:=k_14/\k_18/\k_15/\k_13;((cnRs (frozenRs (typ dNote eNoteO (giveDr (List.take n_2000 b)).1.disk.notes))=t_e b_1.1.disk.notes/\(giveDr (List.take n_2000 b)).1.disk.safe=b_1.1.disk.safe/\cnRs (frozenRs (typ dFTx eFTxO (giveDr (List.take n_2000 b)).1.way))=t_h b_1.1.way)/\(giveDr (List.take n_2000 b)).2=b_1.2)/\(∃ (b_2:Front×Int),((cnRs (frozenRs (typ dNote eNoteO (giveDr (List.take n_2000 b)).1.disk.notes))=t_e b_2.1.disk.notes/\(giveDr (List.take n_2000 b)).1.disk.safe=b_2.1.disk.safe/\cnRs (frozenRs (typ dFTx eFTxO (giveDr (List.take n_2000 b)).1.way))=t_h b_2.1.way)/\(giveDr (List.take n_2000 b)).2=b_2.2)/\(∃ (b_3:Front×Front),((cnRs (frozenRs (typ dNote eNoteO (giveF b_1.1 b_1.2).1.disk.notes))=t_e b_3.1.disk.notes/\(giveF b_1.1 b_1.2).1.disk.safe=b_3.1.disk.safe/\cnRs (frozenRs (typ dFTx eFTxO (giveF b_1.1 b_1.2).1.way))=t_h b_3.1.way)/\cnRs (frozenRs (typ dNote eNoteO (giveF b_2.1 b_2.2).1.disk.notes))=t_e b_3.2.disk.notes/\(giveF b_2.1 b_2.2).1.disk.safe=b_3.2.disk.safe/\cnRs (frozenRs (typ dFTx eFTxO (giveF b_2.1 b_2.2).1.way))=t_h b_3.2.way)/\((!decide (b_3.1=b_3.2))=false->∃ (b_4:y_32),(cnRs (frozenRs (typ dMsg eMsg (giveF b_1.1 b_1.2).2.1))=t_g b_4.1/\cnRs (frozenRs (typ dMsg eMsg (giveF b_2.1 b_2.2).2.1))=t_g b_4.2)/\((!decide (b_4.1=b_4.2))=false->∃ (b_5:y_35),(cnRs (frozenRs (typ dFOut eFOut (giveF b_1.1 b_1.2).2.2))=t_k b_5.1/\cnRs (frozenRs (typ dFOut eFOut (giveF b_2.1 b_2.2).2.2))=t_k b_5.2)/\((!decide (b_5.1=b_5.2))=true->false=true)/\((!decide (b_5.1=b_5.2))=false->∃ (b_6:Front),(cnRs (frozenRs (typ dNote eNoteO (giveDr (List.take n_2000 b)).1.disk.notes))=t_e b_6.disk.notes/\(giveDr (List.take n_2000 b)).1.disk.safe=b_6.disk.safe/\cnRs (frozenRs (typ dFTx eFTxO (giveDr (List.take n_2000 b)).1.way))=t_h b_6.way)/\((!froB b_6)=true->((wr_ (wr_ ((zi (giveF b_1.1 b_1.2).1.way.length)+(zi (giveF b_1.1 b_1.2).2.1.length))+(zi (giveF b_1.1 b_1.2).2.2.length))==i_0)=true->∃ (b:Unit),True/\true=true)/\((wr_ (wr_ ((zi (giveF b_1.1 b_1.2).1.way.length)+(zi (giveF b_1.1 b_1.2).2.1.length))+(zi (giveF b_1.1 b_1.2).2.2.length))==i_0)=false->false=true))/\((!froB b_6)=false->∃ (pre:Nat->Prop),∃ (μ:Nat->Nat),∃ (x0:Nat),((cnRs (frozenRs (typ dNote eNoteO (giveDr (List.take n_2000 b)).1.disk.notes))=cnRs (frozenRs (typ dNote eNoteO (giveDr (List.take n_2000 l)).1.disk.notes))/\(giveDr (List.take n_2000 b)).1.disk.safe=(giveDr (List.take n_2000 l)).1.disk.safe/\cnRs (frozenRs (typ dFTx eFTxO (giveDr (List.take n_2000 b)).1.way))=cnRs (frozenRs (typ dFTx eFTxO (giveDr (List.take n_2000 l)).1.way)))/\(giveDr (List.take n_2000 b)).2=(giveDr (List.take n_2000 l)).2/\(k_14/\k_18/\k_15)/\k_17/\k_16/\i_0=zi x0/\k_12/\k_12/\k_13)/\pre x0/\(∀ (x:Nat),let k_20:Prop:=i_0<=zi x/\zi x<(zi (giveDr (List.take n_2000 l)).1.way.length);let k_19:Prop:=∃ (y:Nat),(k_5/\k_11/\k_3/\k_9/\k_8/\wr_ ((zi x)+i_1)=zi y/\k_1)/\pre y/\μ y<μ x;pre x->(decide (zi x<(zi (giveDr (List.take n_2000 l)).1.way.length))=true->k_20/\(((g_FTx (giveDr (List.take n_2000 l)).1.way x).tx==(giveDr (List.take n_2000 l)).2)=true->k_20/\((!(g_FTx (giveDr (List.take n_2000 l)).1.way x).yes)=true->∃ (b:Front),(cnRs (frozenRs (typ dNote eNoteO (giveF (giveDr (List.take n_2000 l)).1 (giveDr (List.take n_2000 l)).2).1.disk.notes))=t_e b.disk.notes/\(giveF (giveDr (List.take n_2000 l)).1 (giveDr (List.take n_2000 l)).2).1.disk.safe=b.disk.safe/\cnRs (frozenRs (typ dFTx eFTxO (giveF (giveDr (List.take n_2000 l)).1 (giveDr (List.take n_2000 l)).2).1.way))=t_h b.way)/\(froB b=true->(((zi (giveF (giveDr (List.take n_2000 l)).1 (giveDr (List.take n_2000 l)).2).1.way.length)==wr_ ((zi (giveDr (List.take n_2000 l)).1.way.length)-i_1))=true->(((zi (giveF (giveDr (List.take n_2000 l)).1 (giveDr (List.take n_2000 l)).2).2.2.length)==i_1)=true->(i_0<=i_0/\i_0<(zi (giveF (giveDr (List.take n_2000 l)).1 (giveDr (List.take n_2000 l)).2).2.2.length))/\((if false=true then !(((giveF (giveDr (List.take n_2000 l)).1 (giveDr (List.take n_2000 l)).2).2.2.getD (Int.toNat i_0) dFOut).tx==(giveDr (List.take n_2000 l)).2&&((giveF (giveDr (List.take n_2000 l)).1 (giveDr (List.take n_2000 l)).2).2.2.getD (Int.toNat i_0) dFOut).ok==false) else ((giveF (giveDr (List.take n_2000 l)).1 (giveDr (List.take n_2000 l)).2).2.2.getD (Int.toNat i_0) dFOut).tx==(giveDr (List.take n_2000 l)).2&&((giveF (giveDr (List.take n_2000 l)).1 (giveDr (List.take n_2000 l)).2).2.2.getD (Int.toNat i_0) dFOut).ok==false)=true->k_20/\(∃ (b:Opr),((g_FTx (giveDr (List.take n_2000 l)).1.way x).op.kind=b.kind/\(g_FTx (giveDr (List.take n_2000 l)).1.way x).op.who=b.who/\(g_FTx (giveDr (List.take n_2000 l)).1.way x).op.inn=b.inn/\(g_FTx (giveDr (List.take n_2000 l)).1.way x).op.code=b.code/\(g_FTx (giveDr (List.take n_2000 l)).1.way x).op.sec=b.sec/\(g_FTx (giveDr (List.take n_2000 l)).1.way x).op.fam=b.fam/\(g_FTx (giveDr (List.take n_2000 l)).1.way x).op.gen=b.gen)/\(((zi (giveF (giveDr (List.take n_2000 l)).1 (giveDr (List.take n_2000 l)).2).2.1.length)==(zi (placesL b).length))=true->∃ (b:Disk×Disk),((cnRs (frozenRs (typ dNote eNoteO (giveF (giveDr (List.take n_2000 l)).1 (giveDr (List.take n_2000 l)).2).1.disk.notes))=t_e b.1.notes/\(giveF (giveDr (List.take n_2000 l)).1 (giveDr (List.take n_2000 l)).2).1.disk.safe=b.1.safe)/\cnRs (frozenRs (typ dNote eNoteO (giveDr (List.take n_2000 l)).1.disk.notes))=t_e b.2.notes/\(giveDr (List.take n_2000 l)).1.disk.safe=b.2.safe)/\decide (b.1=b.2)=true)/\(((zi (giveF (giveDr (List.take n_2000 l)).1 (giveDr (List.take n_2000 l)).2).2.1.length)==(zi (placesL b).length))=false->false=true)))/\((if false=true then !(((giveF (giveDr (List.take n_2000 l)).1 (giveDr (List.take n_2000 l)).2).2.2.getD (Int.toNat i_0) dFOut).tx==(giveDr (List.take n_2000 l)).2&&((giveF (giveDr (List.take n_2000 l)).1 (giveDr (List.take n_2000 l)).2).2.2.getD (Int.toNat i_0) dFOut).ok==false) else ((giveF (giveDr (List.take n_2000 l)).1 (giveDr (List.take n_2000 l)).2).2.2.getD (Int.toNat i_0) dFOut).tx==(giveDr (List.take n_2000 l)).2&&((giveF (giveDr (List.take n_2000 l)).1 (giveDr (List.take n_2000 l)).2).2.2.getD (Int.toNat i_0) dFOut).ok==false)=false->false=true))/\(((zi (giveF (giveDr (List.take n_2000 l)).1 (giveDr (List.take n_2000 l)).2).2.2.length)==i_1)=false->false=true))/\(((zi (giveF (giveDr (List.take n_2000 l)).1 (giveDr (List.take n_2000 l)).2).1.way.length)==wr_ ((zi (giveDr (List.take n_2000 l)).1.way.length)-i_1))=false->false=true))/\(froB b=false->false=true))/\((!(g_FTx (giveDr (List.take n_2000 l)).1.way x).yes)=false->k_19))/\(((g_FTx (giveDr (List.take n_2000 l)).1.way x).tx==(giveDr (List.take n_2000 l)).2)=false->k_19))/\(decide (zi x<(zi (giveDr (List.take n_2000 l)).1.way.length))=false->∃ (b:Front×Front),((cnRs (frozenRs (typ dNote eNoteO (giveF (giveDr (List.take n_2000 l)).1 (giveDr (List.take n_2000 l)).2).1.disk.notes))=t_e b.1.disk.notes/\(giveF (giveDr (List.take n_2000 l)).1 (giveDr (List.take n_2000 l)).2).1.disk.safe=b.1.disk.safe/\cnRs (frozenRs (typ dFTx eFTxO (giveF (giveDr (List.take n_2000 l)).1 (giveDr (List.take n_2000 l)).2).1.way))=t_h b.1.way)/\cnRs (frozenRs (typ dNote eNoteO (giveDr (List.take n_2000 l)).1.disk.notes))=t_e b.2.disk.notes/\(giveDr (List.take n_2000 l)).1.disk.safe=b.2.disk.safe/\cnRs (frozenRs (typ dFTx eFTxO (giveDr (List.take n_2000 l)).1.way))=t_h b.2.way)/\(decide (b.1=b.2)=true->(wr_ ((zi (giveF (giveDr (List.take n_2000 l)).1 (giveDr (List.take n_2000 l)).2).2.1.length)+(zi (giveF (giveDr (List.take n_2000 l)).1 (giveDr (List.take n_2000 l)).2).2.2.length))==i_0)=true)/\(decide (b.1=b.2)=false->false=true))))))/\((!decide (b_4.1=b_4.2))=true->false=true))/\((!decide (b_3.1=b_3.2))=true->false=true))))))=_ by kernel_rfl) ?_
 delta i_0 i_1 wr_ zi t_U q_U n_2000 t_e t_g g_FTx t_h t_k i_1048576 y_32 y_35
 simp (config:={ maxSteps:=2000000 }) only [zza,zzb,true_and,and_true,and_self,ne_eq,cI_app,cWrtO_app,cWrtS_app,cWrtO_1,cItemO_1,opr_ex,zcast,frz_nil,nil_map,wayEq_self,Option.getD_none,Option.getD_some,if_true]
 intro _
 refine ⟨hpre,?_⟩
 generalize (giveDr (List.take 2000 l)).1=f
 generalize (giveDr (List.take 2000 l)).2=tx
 refine ⟨fun _=>⟨fun _=>⟨fun h=>by simp at h,fun _=>⟨fun h=>?_,fun h=>?_⟩⟩,fun h=>by simp at h⟩,fun h=>by simp at h⟩
 ·have e:giveF f tx=(⟨⟨[],0⟩,[]⟩,[],[]):=by simp at h;simp [giveF,h]
  have w:IntKind.i64.wrap (IntKind.i64.wrap (((0:Nat):Int)+((0:Nat):Int))+((0:Nat):Int))=0:=by
   rw [IntWalk.i64_in (((0:Nat):Int)+((0:Nat):Int)) (by omega),IntWalk.i64_in _ (by omega)]<;>rfl
  simp only [e,List.length_nil]
  exact ⟨fun _=>⟨(),trivial⟩,fun h=>absurd w h⟩
 have h:froB f=true:=by simpa only [Bool.not_eq_false'] using h
 have hf:=froB_iff.1 h
 have hw:=hf.wl
 by_cases hc:∃ k,k<f.way.length/\(f.way.getD k dFTx).tx=tx/\(f.way.getD k dFTx).yes=false
 ·obtain ⟨k,hk,htx,hy⟩:=hc
  have hA:atF f.way tx=k:=htx▸hf.at_eq hk
  have e:giveF f tx=noF f k:=by
   simp only [giveF,h,if_true,hA]
   rw [if_neg,Int.toNat_natCast]
   rintro (h1 | h1)
   ·omega
   ·simp only [yesAt,Int.toNat_natCast] at h1;rw [hy] at h1;cases h1
  have hX:=noF_ok hf k
  simp only [e]
  refine ⟨fun i=>i<=k,by simp,fun i=>f.way.length-i,fun i hi=>?_⟩
  have hi:i<=k:=hi
  have hone:(f.way.getD i dFTx).tx=tx->i=k:=fun h1=>Decidable.byContradiction fun hne=>hf.tx_ne (by omega) hk hne (h1.trans htx.symm)
  refine ⟨fun hlt=>⟨by omega,hlt,fun h1=>?_,fun h1=>?_⟩,fun hge=>by omega⟩
  ·obtain rfl:=hone h1
   refine ⟨by omega,hlt,fun _=>⟨fun _=>⟨fun _=>⟨fun _=>⟨by omega,by simp [noF],fun _=>⟨by omega,hlt,fun _=>rfl,fun h=>absurd (sendF_len _ _ _ _) h⟩,fun h=>?_⟩,fun h=>absurd rfl h⟩,fun h=>?_⟩,fun h=>by rw [froB_iff.2 hX] at h;cases h⟩,fun h=>by rw [hy] at h;simp at h⟩
   ·simp [noF] at h;exact absurd (by simpa [List.getD_eq_getElem?_getD] using h1) h
   ·exact absurd (by rw [IntWalk.i64_in _ (by omega)];simp only [noF,goneF,List.length_eraseIdx,if_pos hk];omega) h
  ·have:i≠k:=fun h2=>h1 (h2▸htx)
   exact ⟨i+1,wrapN (by omega),by simp only;omega,by simp only;omega⟩
 ·have e:giveF f tx=(f,[],[]):=by
   simp only [giveF,h,if_true]
   rw [if_pos]
   by_cases h0:atF f.way tx<0
   ·exact .inl h0
   ·have hat:=atF_lt (w:=f.way) (tx:=tx) (by omega)
    rcases Bool.eq_false_or_eq_true (yesAt f (atF f.way tx)) with hy | hy
    ·exact .inr hy
    ·exact absurd ⟨_,hat.1,hat.2,hy⟩ hc
  have w:IntKind.i64.wrap (((0:Nat):Int)+((0:Nat):Int))=0:=by rw [IntWalk.i64_in _ (by omega)]<;>rfl
  simp only [e,List.length_nil]
  refine ⟨fun i=>i<=f.way.length,by simp,fun i=>f.way.length-i,fun i hi=>⟨fun hlt=>⟨by omega,hlt,fun h1=>⟨by omega,hlt,fun h2=>(hc ⟨i,by omega,h1,by simpa using h2⟩).elim,fun _=>⟨i+1,wrapN (by omega),by simp only;omega,by simp only;omega⟩⟩,fun _=>⟨i+1,wrapN (by omega),by simp only;omega,by simp only;omega⟩⟩,fun _=>⟨fun _=>w,fun h=>absurd trivial h⟩⟩⟩
end Go.Proofs.AI
