/- What the function of this law does, in data. Conditions: none. -/
import Derived.KernelRfl
import Derived.IntWalk
import Derived.Test.YthahcnabgjgpfaaGreatDoorProg
import Derived.ArgAppend
import Derived.Deep.AppendSrc
import Derived.Laws.IdiomCopy
import Derived.Shelf.RegionOpenPlain
import Derived.WalkKit
import Derived.Deep.LoopGhost
import Derived.Deep.RegionLaw
import Derived.Lib.Walk
import Derived.Lib.SliceRun
import Derived.Lib.AppendZerosOnto
import Derived.Lib.Overlaps
import Derived.Laws.Externs
import Derived.Shelf.Spec.SlicesInsertGrow
import Derived.Test.YthahcnabgjgpfaaGreatDoorK04
namespace Go.Proofs.AI
open Go.RowKit
set_option linter.unusedVariables false
set_option linter.unusedSimpArgs false
theorem wayEq_self (p:Way):wayEq p p↔True:=⟨fun _=>trivial,fun _=>rfl⟩
end Go.Proofs.AI
namespace Go.Proofs.AI
open Go.RowKit Go.Proofs
set_option linter.unusedVariables false
set_option linter.unusedSimpArgs false
set_option maxRecDepth 100000
abbrev cKFTxS (x:FTx):List SC:=[.c (.n .i64 x.tx),.c (.n .i64 x.op.kind),.c (.n .i64 x.op.who),.c (.n .i64 x.op.inn),.c (.n .i64 x.op.code),.c (.n .i64 x.op.sec),.c (.n .i64 x.op.fam),.c (.n .i64 x.op.gen),.c (.b x.yes),.c (sI x.can),.c (sI x.know)]
abbrev kFTxS (x:FTx):Ky:=⟨.agg,cKFTxS x,[]⟩
abbrev n_36:Nat:=36
end Go.Proofs.AI
namespace Go.Proofs.AI
open Go.RowKit Go.Proofs
set_option linter.unusedVariables false
set_option linter.unusedSimpArgs false
set_option maxRecDepth 100000
theorem opr_ex' {o:Opr} {P:Opr->Prop}:(∃ x:Opr,(o.kind=x.kind/\o.who=x.who/\o.inn=x.inn/\o.code=x.code/\o.sec=x.sec/\o.fam=x.fam/\o.gen=x.gen)/\P x)↔P o :=
 ⟨fun ⟨x,⟨h1,h2,h3,h4,h5,h6,h7⟩,h⟩=>by cases o;cases x;simp_all,fun h=>⟨o,⟨rfl,rfl,rfl,rfl,rfl,rfl,rfl⟩,h⟩⟩
theorem impl_OpPlaces_ok (o:Opr):FunOK Tryz.prog 33 1 [] [(0,kOp o)] (·=[(1,k1 (oI (placesL o)))]):=by
 refine fun_to (E:=⟨tab,ctOf [impl_OpOk_c],23,[],[(0,[1,11,21,22]),(1,[1,3,11,21,22]),(2,[2,11,21,22]),(3,[1,7,11,21,22]),(4,[2,11,21,22]),(5,[11,12,21,22]),(6,[2,11,21,22]),(7,[2,11,21,22])],[],[],[],[]⟩) tab_ok mixed Tryz.func33 rfl Tryz.ntmps33 (rvs:=[.tmp 2]) Tryz.results33 rfl fun hl=>?_
 refine cast (show (let k_1:Prop:=cnRs (typ i_0 (fun (y:Int)=>[cn_ y]) [i_1,i_2,i_3])=t_I (placesL o);∃ (b:Opr),(o.kind=b.kind/\o.who=b.who/\o.inn=b.inn/\o.code=b.code/\o.sec=b.sec/\o.fam=b.fam/\o.gen=b.gen)/\((!opOk b)=true->(placesL o).length=n_0)/\((!opOk b)=false->((o.kind==i_1)=true->cnRs (typ i_0 (fun (y:Int)=>[cn_ y]) [i_1,i_3])=t_I (placesL o))/\((o.kind==i_1)=false->((o.kind==i_2)=false->((o.kind==i_5)=true->k_1)/\((o.kind==i_5)=false->cnRs (typ i_0 (fun (y:Int)=>[cn_ y]) [i_2,i_3])=t_I (placesL o)))/\((o.kind==i_2)=true->k_1))))=_ by kernel_rfl) ?_
 delta i_0 i_1 i_5 i_2 i_3 t_I n_0 cn_
 simp only [opr_ex',placesL]
 repeat' (first | apply And.intro | intro)
 all_goals (simp_all)
def impl_OpPlaces_c:Con Tryz.prog:=con0 [.lend] fun b:Opr=>impl_OpPlaces_ok b
end Go.Proofs.AI
namespace Go.Proofs.AI
open Go.RowKit Go.Proofs
set_option linter.unusedVariables false
set_option linter.unusedSimpArgs false
set_option maxRecDepth 100000
theorem slices_Clone_int_ok (vs:List Int) (hpre:0<vs.length/\vs.length<=1000):FunOK Tryz.prog 117 1 [] [(0,k1 (sI vs))] (·=[(1,k1 (oI vs))]):=by
 refine fun_to (E:=⟨tab,ctOf [],8,[],[(0,[0,5,6,7]),(1,[0,4,5,6,7]),(2,[0,2,5,6,7]),(3,[0,2,5,6,7])],[],[],[],[]⟩) tab_ok mixed Tryz.func117 rfl Tryz.ntmps117 (rvs:=[.tmp 2]) Tryz.results117 rfl fun hl=>?_
 refine cast (show (n_0<vs.length/\((if false=true then true else false)=true->vs.length=n_0)/\((if false=true then true else false)=false->(n_0+vs.length)*n_8<=n_140737488355328/\cnRs (appR (raw []) (typ i_0 eI vs))=t_I vs))=_ by kernel_rfl) ?_
 delta i_0 t_I n_0 n_8 n_140737488355328
 simp only [zza,true_and,and_true,and_self,ne_eq,cI_app,cWrtO_app,cWrtS_app,cWrtO_1,cItemO_1,opr_ex,zcast,frz_nil,nil_map]
 refine ⟨hpre.1,fun h=>by simp at h,fun _=>⟨by omega,?_⟩⟩
 simp [cI]
theorem half_eq {a b:Nat} (h1:a<=b) (h2:b<=1000):IntKind.i64.wrap ((IntKind.u64.wrap (IntKind.i64.wrap ((a:Int)+(b:Int)))).fdiv (2 ^ min (Int.toNat 1) IntKind.u64.bits))=(((a+b) / 2:Nat):Int):=by
 rw [show IntKind.i64.wrap ((a:Int)+(b:Int))=(a:Int)+(b:Int) from IntWalk.i64_in _ (by omega),IntKind.wrap_u64,show min (Int.toNat 1) IntKind.u64.bits=1 from rfl,Int.fdiv_eq_ediv_of_nonneg _ (by decide),IntWalk.i64_in _ (by omega)]
 omega
theorem IndexInt_ok (xs:List Int) (z:Int):FunOK Tryz.prog 169 2 [] [(0,k1 (sI xs)),(1,kI z)] (·=[(2,kI (idxOf (fun x=>z==x) xs))]):=by
 refine fun_to (E:=⟨tab,ctOf [],19,[],[(0,[0,1]),(1,[0,1,7,8]),(2,[0,1,7,8,9]),(3,[0,1,5,7,8]),(4,[0,1,5,7,8,16]),(5,[4]),(6,[0,1,7,8]),(7,[4])],[(0,⟨Nat,fun x=>[(0,(k1 (.sh 3 (typ (0:Int) eI xs)))),(1,(k1 (.n .i64 z))),(7,(k1 (.n .i64 ((↑xs.length:Int))))),(8,(k1 (.n .i64 (x:Int))))]⟩)],[],[],[]⟩) tab_ok mixed Tryz.func169 rfl Tryz.ntmps169 (rvs:=[.tmp 4]) Tryz.results169 rfl fun hl=>?_
 refine cast (show (∃ (pre:Nat->Prop),∃ (μ:Nat->Nat),∃ (x0:Nat),(q_I xs xs/\z=z/\zi xs.length=zi xs.length/\i_0=zi x0)/\pre x0/\∀ (x:Nat),pre x->(decide (zi x<zi xs.length)=true->(i_0<=zi x/\zi x<zi xs.length)/\((z==g_Int xs x)=true->zi x=idxOf (fun (x:Int)=>z==x) xs)/\((z==g_Int xs x)=false->∃ (y:Nat),(q_I xs xs/\z=z/\zi xs.length=zi xs.length/\wr_ ((zi x)+i_1)=zi y)/\pre y/\μ y<μ x))/\(decide (zi x<zi xs.length)=false->(-1:Int)=idxOf (fun (x:Int)=>z==x) xs))=_ by kernel_rfl) ?_
 delta i_0 i_1 wr_ g_Int zi t_I q_I
 have hx:xs.length<=9223372036854775807:=hl.1 _ (List.mem_singleton.2 rfl)
 simp only [zza,true_and,and_true,and_self,ne_eq,cI_app,cWrtO_app,cWrtS_app,cWrtO_1,cItemO_1,opr_ex,zcast,frz_nil,nil_map]
 refine ⟨fun i=>i<=xs.length/\∀ j,j<i->(z==(xs.getD j 0))=false,⟨by simp,fun j hj=>absurd hj (Nat.not_lt_zero _)⟩,fun i=>xs.length-i,fun i hi=>?_⟩
 obtain ⟨h1,h2⟩:=hi
 refine ⟨fun hlt=>⟨by omega,by omega,fun hp=>?_,fun hp=>⟨i+1,wrapN (by omega),⟨by omega,below_succ h2 (by simpa using hp)⟩,by simp only;omega⟩⟩,fun hge=>?_⟩
 ·exact (idx_hit (p:=fun x=>z==x) (d:=0) (by omega) (by simpa using hp) h2).symm
 ·exact (idx_miss (p:=fun x=>z==x) (d:=0) fun j hj=>h2 j (by omega)).symm
def IndexInt_c:Con Tryz.prog:=con0 [.lend,.lend] fun b:List Int×Int=>IndexInt_ok (b.1) (b.2)
theorem ContainsInt_ok (xs:List Int) (z:Int):FunOK Tryz.prog 129 2 [] [(0,k1 (sI xs)),(1,kI z)] (·=[(2,kB (xs.any fun x=>z==x))]):=by
 refine fun_to (E:=⟨tab,ctOf [IndexInt_c],9,[],[(0,[0,1]),(1,[4])],[],[],[],[]⟩) tab_ok mixed Tryz.func129 rfl Tryz.ntmps129 (rvs:=[.tmp 4]) Tryz.results129 rfl fun hl=>?_
 refine cast (show (∃ (b:List Int×Int),(q_I xs b.1/\z=b.2)/\decide (idxOf (fun (x:Int)=>b.2==x) b.1≥i_0)=xs.any fun (x:Int)=>z==x)=_ by kernel_rfl) ?_
 delta i_0 t_I q_I
 simp only [zza,true_and,and_true,and_self,ne_eq,cI_app,cWrtO_app,cWrtS_app,cWrtO_1,cItemO_1,opr_ex,zcast,frz_nil,nil_map]
 exact idx_ge _ _
def ContainsInt_c:Con Tryz.prog:=con0 [.lend,.lend] fun b:List Int×Int=>ContainsInt_ok (b.1) (b.2)
end Go.Proofs.AI
namespace Go.Proofs.AI
open Go.RowKit Go.Proofs
set_option linter.unusedVariables false
set_option linter.unusedSimpArgs false
set_option maxRecDepth 100000
theorem i4:(if (false=true) then false else true)=true:=rfl
end Go.Proofs.AI
namespace Go.Proofs.AI
open Go.RowKit
set_option linter.unusedVariables false
set_option linter.unusedSimpArgs false
theorem oth_setCells (g:Nat):∀ (vs:List Value) (o:Nat) (w:World),Oth w (w.setCells g o vs) g
 | [],o,w=>Oth.refl _ _
 | v::r,o,w=>by
  rw [World.setCells]
  refine Oth.trans ?_ (oth_setCells g r (o+1) _)
  refine ⟨rfl,rfl,rfl,by simp [World.setCell],fun b hb hn=>heap_far w g o v hn⟩
theorem setCells_heap (g:Nat):∀ (vs:List Value) (o:Nat) (w:World) {cur:Array Value} {e:TypeId} {fr:Nat×Nat},w.heap[g]?=some (.cells cur e fr) ->
  ∃ cur',(w.setCells g o vs).heap[g]?=some (.cells cur' e fr)/\cur'.size=cur.size/\(∀ q,q<o∨o+vs.length<=q->cur'[q]?=cur[q]?)/\∀ (j:Nat) v,vs[j]?=some v->o+j<cur.size->cur'[o+j]?=some v
 | [],o,w,cur,e,fr,h=>⟨cur,h,rfl,fun _ _=>rfl,fun j v hj=>by simp at hj⟩
 | v::r,o,w,cur,e,fr,h=>by
  rw [World.setCells]
  obtain ⟨cur',h1,h2,h3,h4⟩:=setCells_heap g r (o+1) _ (heap_set w g o v h)
  refine ⟨cur',h1,by simpa using h2,fun q hq=>?_,fun j u hj hlt=>?_⟩
  ·rw [h3 q (by simp at hq;omega),Array.getElem?_setIfInBounds_ne (by simp at hq;omega)]
  ·cases j with
   | zero =>
    simp at hj;subst hj
    rw [Nat.add_zero,h3 o (by omega)]
    simp at hlt
    simp [hlt]
   | succ j =>
    have:=h4 j u (by simpa using hj) (by simpa using by omega)
    rw [show o+(j+1)=o+1+j by omega];exact this
theorem cell_of {w:World} {g:Nat} {cur:Array Value} {e:TypeId} (h:w.heap[g]?=some (.cells cur e (0,0))) (q:Nat):w.cell? ⟨g,q,none⟩=cur[q]?:=by
 simp [World.cell?,h]
theorem frozen_of {w:World} {g:Nat} {cur:Array Value} {e:TypeId} (h:w.heap[g]?=some (.cells cur e (0,0))) (q:Nat):w.frozen? ⟨g,q,none⟩=false:=by
 simp [World.frozen?,h]
theorem shape_of {w:World} {g:Nat} {cur:Array Value} {e:TypeId} (h:w.heap[g]?=some (.cells cur e (0,0))):w.shape? g=some (e,cur.size):=by
 simp [World.shape?,h]
section
variable {P:Program}
theorem run_copy_any (w:World) (dT sT ty elem:TypeId) (b o dLen dCap:Nat) (a:Addr) (sLen sCap:Nat) (cs:List Value) (i:TypeInfo)
  (hu:P.underlying dT=some (.slice elem)) (hs:P.info? elem=some i) (hn:cs.length=Nat.min sLen dLen*i.size)
  (hsrc:∀ j v,cs[j]?=some v->w.cell? (a.add j)=some v) (hc:∀ j,j<cs.length->(w.cell? ⟨b,o+j,none⟩).isSome=true) (hf:∀ j,j<cs.length->w.frozen? ⟨b,o+j,none⟩=false) (h1:∀ v∈cs,v.oneCell'=true) :
  (Builtin.copy_ #[dT,sT] ty #[.slice (some ⟨b,o,none⟩) dLen dCap,.slice (some a) sLen sCap]).run P w=.ok (goInt (Nat.min sLen dLen)) (w.setCells b o cs):=by
 have hfc:=run_firstCells_some (P:=P) w i.size (Nat.min sLen dLen) a sLen sCap cs hn hsrc
 have hst:=run_storeCells_cells (P:=P) b o cs 0 w (by simpa using hc) (by simpa using hf) h1
 simp only [Nat.add_zero] at hst
 simp [Builtin.copy_,run_underlying hu,sizeOf,typeInfo,hs,Builtin.lenOf,hfc,hst]
theorem run_clear_any (w:World) (t e ty:TypeId) (z:Value) (ht:P.underlying t=some (.slice e)) (hv:∀ w,(zeroValue e).run P w=.ok z w) (h1:∀ v∈z.cells,v.oneCell'=true) (b o n c:Nat) (hn:0<n)
  (hc:∀ j,j<n*z.cells.size->(w.cell? ⟨b,o+j,none⟩).isSome=true) (hf:∀ j,j<n*z.cells.size->w.frozen? ⟨b,o+j,none⟩=false) :
  ∃ zs:List Value,(Builtin.clear_ #[t] ty #[.slice (some ⟨b,o,none⟩) n c]).run P w=.ok (.tuple #[]) (w.setCells b o zs)/\zs.length=n*z.cells.size:=by
 have hl:(Builtin.zeroCells z.cells n).toList.length=n*z.cells.size:=by simp [Builtin.zeroCells]
 have hone:∀ v∈(Builtin.zeroCells z.cells n).toList,v.oneCell'=true:=fun v hv'=>by
  simp only [Builtin.zeroCells,Array.toList_map,List.mem_map] at hv'
  obtain ⟨k,hk,rfl⟩:=hv'
  have hk:k<n*z.cells.size:=by simpa using hk
  have hlt:k % z.cells.size<z.cells.size:=Nat.mod_lt _ (by
   rcases Nat.eq_zero_or_pos z.cells.size with h | h
   ·rw [h] at hk;simp at hk
   ·exact h)
  rw [getElem!_pos z.cells _ hlt]
  exact h1 _ (Array.getElem_mem hlt)
 have hst:=run_storeCells_cells (P:=P) b o (Builtin.zeroCells z.cells n).toList 0 w (by rw [hl];simpa using hc) (by rw [hl];simpa using hf) hone
 simp only [Nat.add_zero] at hst
 obtain ⟨m,rfl⟩:∃ m,n=m+1:=⟨n-1,by omega⟩
 exact ⟨_,by simp [Builtin.clear_,run_underlying ht,hv,hst],hl⟩
end
def delR {C:Type} (es:Rows C) (i j:Nat):Rows C:=⟨es.n-(j-i),fun k=>if k<i then es.f k else es.f (k+(j-i))⟩
def insR {C:Type} (es:Rows C) (i:Nat) (row:List C):Rows C:=⟨es.n+1,fun k=>if k<i then es.f k else if k=i then row else es.f (k-1)⟩
def DelCall (P:Program) (f:FuncId) (e:TypeId) (z:Nat):Prop:=∀ (w:World) (g n cap i j:Nat) (cur:Array Value),w.heap[g]?=some (.cells cur e (0,0))->cur.size=cap*z->n<=cap->cap<=maxLen->i<j->j<=n->(∀ q v,q<n*z->cur[q]?=some v->v.oneCell'=true) ->
 Calls P f #[.slice (some ⟨g,0,none⟩) n cap,.int .i64 i,.int .i64 j] w fun ed w'=>ed=.returned (.slice (some ⟨g,0,none⟩) (n-(j-i)) cap)/\∃ cur':Array Value,w'.heap[g]?=some (.cells cur' e (0,0))/\cur'.size=cur.size /\
  (∀ q,q<i*z->cur'[q]?=cur[q]?)/\(∀ q,i*z<=q->q<(n-(j-i))*z->cur'[q]?=cur[q+(j-i)*z]?)/\Oth w w' g
def InsCall (P:Program) (f:FuncId) (e:TypeId) (z:Nat):Prop:=∀ (w:World) (A:Option Nat) (n c i h vc:Nat) (olds news:List Value),i<=n->n<=c->c<=maxLen->n<=1000->olds.length=n*z->news.length=z->(∀ v∈olds,v.oneCell'=true)->(∀ v∈news,v.oneCell'=true) ->
 (A=none->n=0/\c=0)->(∀ g,A=some g->g≠h/\∃ cur:Array Value,w.heap[g]?=some (.cells cur e (0,0))/\cur.size=c*z/\∀ q,q<n*z->cur[q]?=olds[q]?)->(∃ hcur:Array Value,w.heap[h]?=some (.cells hcur e (0,0))/\∀ q,q<z->hcur[q]?=news[q]?) ->
 Calls P f #[.slice (A.map fun g=>⟨g,0,none⟩) n c,.int .i64 i,.slice (some ⟨h,0,none⟩) 1 vc] w fun ed w'=>∃ (g' c':Nat) (cur':Array Value),ed=.returned (.slice (some ⟨g',0,none⟩) (n+1) c')/\w'.heap[g']?=some (.cells cur' e (0,0))/\cur'.size=c'*z/\n+1<=c'/\c'<=maxLen /\
  (∀ q,q<(n+1)*z->cur'[q]?=(olds.take (i*z)++news++olds.drop (i*z))[q]?)/\(A=some g'∨w.heap.size<=g')/\(∀ b,b<w.heap.size->A≠some b->w'.heap[b]?=w.heap[b]?)/\w'.os=w.os/\w'.tape=w.tape/\w'.output=w.output/\w.heap.size<=w'.heap.size
theorem rel_ret {P:Program} {m:Nat} {w w':World} {F0:CP} {I0:Nat->Prop} {args:Array Value} {ins:L} {I:Nat->Prop} {U:Nat->Nat->Value} {B:Nat->Nat×Nat} {F:Nat->FP} (hr:RelW ⟨P,m,w,F0,I0,[],#[]⟩ I U B F (mk ins) ⟨args,[]⟩ w)
  {y:CV} {v:Value} {N:FP} (hy:Rep P w' I y v N) (hN:∀ b,N b->b<w'.heap.size/\¬ I b/\(w.heap.size<=b∨∀ q,F0 b q)) (hf:Fr w w' F0) :
  Rel ⟨P,m+1,w,F0,I0,[],args⟩ (mk [(m,⟨.one,[.c y],[]⟩)]) ⟨args.push v,[]⟩ w':=by
 have hsz:args.size=m:=hr.size
 refine ⟨I,fun _ _=>v,fun _=>(0,0),fun t=>if t=m then N else FP.none,⟨by simp [hsz],rfl,fun t K hK=>?_,fun t t' b h1 h2=>?_,fun t b hb=>?_,fun t b hb=>?_,fun b hb=>Nat.lt_of_lt_of_le (hr.ro b hb) hf.size,hr.ro0,hr.roN,hf⟩⟩
 ·simp only [mk,up] at hK
  split at hK
  ·rename_i ht
   subst ht;cases hK
   refine ⟨Nat.lt_succ_self _,⟨⟨fun _ _=>hy.one,rfl,?_⟩,⟨fun o=>if o=0 then N else FP.none,fun o x hx=>?_,fun o o' b h1 h2=>?_,fun o b hb=>?_⟩,fun b hb=>by cases hb.1⟩⟩
   ·show (args.push v).getD t undef=v
    rw [<- hsz];simp [Array.getD_eq_getD_getElem?]
   ·cases o with
    | zero=>simp at hx;subst hx;exact hy
    | succ o=>simp at hx
   ·by_cases e1:o=0<;>by_cases e2:o'=0
    ·omega
    ·simp [e2,FP.none] at h2
    ·simp [e1,FP.none] at h1
    ·simp [e1,FP.none] at h1
   ·by_cases e1:o=0
    ·simp [e1] at hb;exact ⟨by simpa using hb,fun hr=>by cases hr.1⟩
    ·simp [e1,FP.none] at hb
  ·cases hK
 ·by_cases e1:t=m<;>by_cases e2:t'=m
  ·rw [e1,e2]
  ·simp [e2,FP.none] at h2
  ·simp [e1,FP.none] at h1
  ·simp [e1,FP.none] at h1
 ·by_cases e1:t=m
  ·simp [e1] at hb;exact ⟨(hN b hb).1,(hN b hb).2.1⟩
  ·simp [e1,FP.none] at hb
 ·by_cases e1:t=m
  ·simp [e1] at hb;exact (hN b hb).2.2.imp id .inl
  ·simp [e1,FP.none] at hb
end Go.Proofs.AI
namespace Go.Proofs.AI
open Go.RowKit
set_option linter.unusedVariables false
set_option linter.unusedSimpArgs false
abbrev kc (y:CV):Ky:=⟨.one,[.c y],[]⟩
theorem arr3 {args:Array Value} (h:args.size=3):args=#[args.getD 0 undef,args.getD 1 undef,args.getD 2 undef]:=by
 refine Array.ext (by simp [h]) fun j h1 h2=>?_
 have hj:j=0∨j=1∨j=2:=by omega
 rcases hj with rfl | rfl | rfl<;>simp [Array.getD_eq_getD_getElem?,h1]
theorem delR_l {C:Type} (es:Rows C) {i j k:Nat} {row:List C} (hij:i<j) (hj:j<=es.n) (h:(delR es i j).l[k]?=some row):k<es.n-(j-i)/\es.l[if k<i then k else k+(j-i)]?=some row:=by
 obtain ⟨h1,h2⟩:=Rows.l_lt h
 simp only [delR] at h1 h2
 refine ⟨h1,?_⟩
 split at h2<;>rename_i hk
 ·rw [if_pos hk,Rows.l_eq es (by omega),h2]
 ·rw [if_neg hk,Rows.l_eq es (by omega),h2]
theorem insR_l {C:Type} (es:Rows C) {i k:Nat} {row0 row:List C} (hi:i<=es.n) (h:(insR es i row0).l[k]?=some row):k<es.n+1/\(k<i/\es.l[k]?=some row∨k=i/\row=row0∨i<k/\es.l[k-1]?=some row):=by
 obtain ⟨h1,h2⟩:=Rows.l_lt h
 simp only [insR] at h1 h2
 refine ⟨h1,?_⟩
 split at h2<;>rename_i hk
 ·exact .inl ⟨hk,by rw [Rows.l_eq es (by omega),h2]⟩
 ·split at h2<;>rename_i hk2
  ·exact .inr (.inl ⟨hk2,h2.symm⟩)
  ·exact .inr (.inr ⟨by omega,by rw [Rows.l_eq es (by omega),h2]⟩)
section
variable {P:Program} {f:FuncId} {e:TypeId} {z:Nat}
theorem del_fun (hc:DelCall P f e z) (hz:P.cellsOf e=z) (hent:∀ args w,(callFunc f args).run P w=.ok (.enter f args) w) (es:Rows CV) (i j:Nat) (hij:i<j) (hj:j<=es.n) :
  FunOK P f 3 [] [(0,kc (.ow e es)),(1,kc (.n .i64 i)),(2,kc (.n .i64 j))] (·=[(3,kc (.ow e (delR es i j)))]):=by
 intro F0 I0 args w hs ⟨I,U,B,F,hr⟩
 obtain ⟨_,r0,⟨N0,n0,_,f0⟩,_⟩:=hr.key 0 (kc (.ow e es)) (by simp [mk,up])
 obtain ⟨_,r1,⟨N1,n1,_⟩,_⟩:=hr.key 1 (kc (.n .i64 i)) (by simp [mk,up])
 obtain ⟨_,r2,⟨N2,n2,_⟩,_⟩:=hr.key 2 (kc (.n .i64 j)) (by simp [mk,up])
 have a0:args.getD 0 undef=U 0 0:=r0.2.2
 have a1:args.getD 1 undef=.int .i64 i:=by rw [show args.getD 1 undef=U 1 0 from r1.2.2];exact rep_n (n1 0 _ rfl)
 have a2:args.getD 2 undef=.int .i64 j:=by rw [show args.getD 2 undef=U 2 0 from r2.2.2];exact rep_n (n2 0 _ rfl)
 have hrep:Rep P w I (.ow e es) (U 0 0) (N0 0):=n0 0 _ rfl
 rcases Rep.ow_inv hrep with ⟨_,h0⟩ | ⟨g,cap,cur,us,G,hv,h1,h2,h3,h4,h5,h6,h7,h8,h9,h10,h11⟩
 ·omega
 rw [hz] at h2 h7 h8
 have hargs:args=#[.slice (some ⟨g,0,none⟩) es.n cap,.int .i64 i,.int .i64 j]:=by rw [arr3 hs,a0,a1,a2,hv]
 have hown:∀ b,N0 0 b->b<w.heap.size/\¬ I b/\∀ q,F0 b q:=fun b hb=>by
  have hb:=(f0 0 b hb).1
  obtain ⟨o1,o2⟩:=hr.own 0 b hb
  refine ⟨o1,o2,?_⟩
  rcases hr.may 0 b hb with m1 | m1 | ⟨K,m1,m2,_⟩
  ·exact absurd m1 (by simp only;omega)
  ·exact m1
  ·simp [mk,up] at m1;subst m1;cases m2.1
 have hone:∀ q v,q<es.n*z->cur[q]?=some v->v.oneCell'=true:=fun q v hq hv'=>by
  rcases Nat.eq_zero_or_pos z with hz0 | hz0
  ·rw [hz0] at hq;simp at hq
  have hk:q / z<es.n:=by rw [Nat.div_lt_iff_lt_mul hz0];exact hq
  have hrow:=Rows.l_eq es hk
  have hl:=h7 _ _ hrow
  have ho:q % z<(es.f (q / z)).length:=by rw [hl];exact Nat.mod_lt _ hz0
  have e1:=h8 _ _ (q % z) hrow ho
  rw [Nat.div_add_mod' q z] at e1
  rw [e1] at hv';cases hv'
  exact (h9 _ _ (q % z) _ hrow (List.getElem?_eq_getElem ho)).one
 unfold CallsTo
 rw [hent]
 rw [hargs]
 refine Calls.mono (hc w g es.n cap i j cur h1 h2 h3 h4 hij hj hone) fun ed w' ⟨d1,cur',d2,d3,d4,d5,d6⟩=>⟨_,d1,_,rfl,?_⟩
 rw [<- hargs]
 refine rel_ret hr (N:=N0 0) ?_ (fun b hb=>?_) (Fr.oth d6 (hown g h5).2.2)
 ·have hG:∀ {k o:Nat} {row:List CV} {x:CV},es.l[k]?=some row->row[o]?=some x->Rep P w' I x (us k o) (G k o):=fun {k o row x} hk ho =>
   (h9 k row o x hk ho).frame (fun b hb=>by
    rcases hb with hb | hb
    ·exact d6.block b (hr.ro b hb) (by rintro rfl;exact h6 hb)
    ·obtain ⟨g1,g2⟩:=h10 k o b hb
     exact d6.block b (hown b g1).1 g2)
  rw [show es.n-(j-i)=(delR es i j).n from rfl]
  refine .ow (fun k o=>us (if k<i then k else k+(j-i)) o) (fun k o=>G (if k<i then k else k+(j-i)) o) d2 (by rw [d3,h2,hz]) (by simp only [delR];omega) h4 h5 h6 (fun k row hk=>?_) (fun k row o hk ho=>?_) (fun k row o x hk ho=>?_) (fun k o b hb=>h10 _ _ _ hb) (fun k o k' o' b hb hb'=>?_)
  ·rw [hz];exact h7 _ _ (delR_l es hij hj hk).2
  ·rw [hz]
   obtain ⟨hlt,hk⟩:=delR_l es hij hj hk
   have e1:=h8 _ _ o hk ho
   have hl:=h7 _ _ hk
   have hoz:o<z:=by omega
   by_cases hki:k<i
   ·simp only [hki,if_true] at e1 ⊢
    rw [d4 _ (by have:(k+1)*z<=i*z:=Nat.mul_le_mul_right z hki;rw [Nat.succ_mul] at this;omega)]
    exact e1
   ·simp only [hki,if_false] at e1 ⊢
    rw [d5 _ (by have:i*z<=k*z:=Nat.mul_le_mul_right z (by omega);omega) (by have:(k+1)*z<=(es.n-(j-i))*z:=Nat.mul_le_mul_right z hlt;rw [Nat.succ_mul] at this;omega)]
    rw [show k*z+o+(j-i)*z=(k+(j-i))*z+o by rw [Nat.add_mul];omega]
    exact e1
  ·exact hG (delR_l es hij hj hk).2 ho
  ·obtain ⟨q1,q2⟩:=h11 _ _ _ _ b hb hb'
   refine ⟨?_,q2⟩
   split at q1<;>split at q1<;>omega
 ·obtain ⟨o1,o2,o3⟩:=hown b hb
  exact ⟨Nat.lt_of_lt_of_le o1 d6.size,o2,.inr o3⟩
def cellsL (cur:Array Value) (m:Nat):List Value:=(List.range m).map fun q=>cur.getD q undef
theorem cellsL_at {cur:Array Value} {m q:Nat} (hq:q<m) (hm:m<=cur.size):(cellsL cur m)[q]?=cur[q]?:=by
 simp [cellsL,List.getElem?_range hq,Array.getD_eq_getD_getElem?,show q<cur.size by omega]
theorem cellsL_len (cur:Array Value) (m:Nat):(cellsL cur m).length=m:=by simp [cellsL]
theorem mid_at {olds news:List Value} {n i z k o:Nat} (hl:olds.length=n*z) (hn:news.length=z) (hi:i<=n) (hk:k<n+1) (ho:o<z) :
  (olds.take (i*z)++news++olds.drop (i*z))[k*z+o]?=if k<i then olds[k*z+o]? else if k=i then news[o]? else olds[(k-1)*z+o]?:=by
 have hiz:i*z<=n*z:=Nat.mul_le_mul_right z hi
 have ht:(olds.take (i*z)).length=i*z:=by rw [List.length_take,hl];omega
 have htn:(olds.take (i*z)++news).length=i*z+z:=by rw [List.length_append,ht,hn]
 by_cases h1:k<i
 ·have:(k+1)*z<=i*z:=Nat.mul_le_mul_right z h1
  rw [Nat.succ_mul] at this
  rw [if_pos h1,List.getElem?_append_left (by omega),List.getElem?_append_left (by omega),List.getElem?_take,if_pos (by omega)]
 ·rw [if_neg h1]
  by_cases h2:k=i
  ·subst h2
   rw [if_pos rfl,List.getElem?_append_left (by omega),List.getElem?_append_right (by omega),ht,Nat.add_sub_cancel_left]
  ·rw [if_neg h2]
   obtain ⟨d,rfl⟩:∃ d,k=i+1+d:=⟨k-(i+1),by omega⟩
   have e1:(i+1+d)*z+o=i*z+z+(d*z+o):=by rw [Nat.add_mul,Nat.add_mul,Nat.one_mul];omega
   have e2:(i+1+d-1)*z+o=i*z+(d*z+o):=by rw [show i+1+d-1=i+d by omega,Nat.add_mul];omega
   rw [List.getElem?_append_right (by rw [htn];omega),htn,e1,Nat.add_sub_cancel_left,List.getElem?_drop,e2]
theorem ins_fun (hc:InsCall P f e z) (hz:P.cellsOf e=z) (hz0:0<z) (hent:∀ args w,(callFunc f args).run P w=.ok (.enter f args) w) (es:Rows CV) (i:Nat) (row:List CV) (hi:i<=es.n) (hn:es.n<=1000) :
  FunOK P f 3 [] [(0,kc (.ow e es)),(1,kc (.n .i64 i)),(2,kc (.ow e (raw [row])))] (·=[(3,kc (.ow e (insR es i row)))]):=by
 intro F0 I0 args w hs ⟨I,U,B,F,hr⟩
 obtain ⟨_,r0,⟨N0,n0,_,f0⟩,_⟩:=hr.key 0 (kc (.ow e es)) (by simp [mk,up])
 obtain ⟨_,r1,⟨N1,n1,_⟩,_⟩:=hr.key 1 (kc (.n .i64 i)) (by simp [mk,up])
 obtain ⟨_,r2,⟨N2,n2,_,f2⟩,_⟩:=hr.key 2 (kc (.ow e (raw [row]))) (by simp [mk,up])
 have a0:args.getD 0 undef=U 0 0:=r0.2.2
 have a1:args.getD 1 undef=.int .i64 i:=by rw [show args.getD 1 undef=U 1 0 from r1.2.2];exact rep_n (n1 0 _ rfl)
 have a2:args.getD 2 undef=U 2 0:=r2.2.2
 have hrep:Rep P w I (.ow e es) (U 0 0) (N0 0):=n0 0 _ rfl
 have hrep2:Rep P w I (.ow e (raw [row])) (U 2 0) (N2 0):=n2 0 _ rfl
 have hown:∀ t,t=0∨t=2->∀ b,F t b->b<w.heap.size/\¬ I b/\∀ q,F0 b q:=fun t ht b hb=>by
  obtain ⟨o1,o2⟩:=hr.own t b hb
  refine ⟨o1,o2,?_⟩
  rcases hr.may t b hb with m1 | m1 | ⟨K,m1,m2,_⟩
  ·exact absurd m1 (by simp only;omega)
  ·exact m1
  ·rcases ht with rfl | rfl<;>(simp [mk,up] at m1;subst m1;cases m2.1)
 rcases Rep.ow_inv hrep2 with ⟨_,h0⟩ | ⟨h,vc,hcur,us2,G2,hv2,p1,p2,p3,p4,p5,p6,p7,p8,p9,p10,p11⟩
 ·simp [raw] at h0
 have hrow:(raw [row]).l[0]?=some row:=by rw [raw_l]<;>rfl
 have hrl:=p7 0 row hrow
 rw [hz] at hrl p2
 have hnews:∀ q,q<z->hcur[q]?=(cellsL hcur z)[q]?:=fun q hq=>by
  have:=p8 0 row q hrow (by omega)
  rw [Nat.zero_mul,Nat.zero_add] at this
  simp [cellsL,List.getElem?_range hq,Array.getD_eq_getD_getElem?,this]
 have hnew1:∀ v∈cellsL hcur z,v.oneCell'=true:=fun v hv=>by
  obtain ⟨q,hq⟩:=List.getElem?_of_mem hv
  have hlt:q<z:=by have:=(List.getElem?_eq_some_iff.1 hq).1;rwa [cellsL_len] at this
  rw [<- hnews q hlt] at hq
  have:=p8 0 row q hrow (by omega)
  rw [Nat.zero_mul,Nat.zero_add,hq] at this
  cases this
  exact (p9 0 row q _ hrow (List.getElem?_eq_getElem (by omega))).one
 have fh:F 2 h:=(f2 0 h p5).1
 obtain ⟨A,cap,cur,us,G,hv,hA0,hA,hcap,hcap2,h7,h8,h9,h10,h11⟩:∃ (A:Option Nat) (cap:Nat) (cur:Array Value) (us:Nat->Nat->Value) (G:Nat->Nat->FP),U 0 0=.slice (A.map fun g=>⟨g,0,none⟩) es.n cap/\(A=none->es.n=0/\cap=0) /\
   (∀ g,A=some g->w.heap[g]?=some (.cells cur e (0,0))/\cur.size=cap*z/\N0 0 g/\¬ I g)/\es.n<=cap/\cap<=maxLen/\(∀ (k:Nat) (row:List CV),es.l[k]?=some row->row.length=z) /\
   (∀ (k:Nat) (row:List CV) (o:Nat),es.l[k]?=some row->o<row.length->cur[k*z+o]?=some (us k o))/\(∀ (k:Nat) (row:List CV) (o:Nat) (x:CV),es.l[k]?=some row->row[o]?=some x->Rep P w I x (us k o) (G k o)) /\
   (∀ k o b,G k o b->N0 0 b/\A≠some b)/\(∀ k o k' o' b,G k o b->G k' o' b->k=k'/\o=o'):=by
  rcases Rep.ow_inv hrep with ⟨e0,h0⟩ | ⟨g,cap,cur,us,G,hv,h1,h2,h3,h4,h5,h6,h7,h8,h9,h10,h11⟩
  ·have hl:es.l=[]:=Rows.l_nil h0
   exact ⟨none,0,#[],fun _ _=>undef,fun _ _=>FP.none,by rw [e0,h0]<;>rfl,fun _=>⟨h0,rfl⟩,fun g hg=>(by cases hg),by omega,by unfold maxLen;omega,fun k row hk=>by simp [hl] at hk,fun k row o hk=>by simp [hl] at hk,fun k row o x hk=>by simp [hl] at hk,fun _ _ _ h=>h.elim,fun _ _ _ _ _ h=>h.elim⟩
  ·rw [hz] at h2 h7 h8
   exact ⟨some g,cap,cur,us,G,hv,fun h=>(by cases h),fun g' hg=>by cases hg;exact ⟨h1,h2,h5,h6⟩,h3,h4,h7,h8,h9,fun k o b hb=>⟨(h10 k o b hb).1,fun h=>(h10 k o b hb).2 (by cases h;rfl)⟩,h11⟩
 have hcs:A≠none->es.n*z<=cur.size:=fun hne=>by
  cases A with
  | none=>exact absurd rfl hne
  | some g=>rw [(hA g rfl).2.1];exact Nat.mul_le_mul_right z hcap
 obtain ⟨olds,holds,holdl⟩:∃ olds:List Value,(∀ q,q<es.n*z->cur[q]?=olds[q]?)/\olds.length=es.n*z:=by
  refine ⟨cellsL cur (es.n*z),fun q hq=>?_,cellsL_len _ _⟩
  cases A with
  | none=>rw [(hA0 rfl).1] at hq;simp at hq
  | some g=>exact (cellsL_at hq (hcs (by simp))).symm
 have hat:∀ {k o:Nat} {r:List CV},es.l[k]?=some r->o<r.length->olds[k*z+o]?=some (us k o):=fun {k o r} hk ho=>by
  have hkn:=(Rows.l_lt hk).1
  have hl:=h7 k r hk
  have:(k+1)*z<=es.n*z:=Nat.mul_le_mul_right z hkn
  rw [Nat.succ_mul] at this
  rw [<- holds _ (by omega)]
  exact h8 k r o hk ho
 have hone:∀ v∈olds,v.oneCell'=true:=fun v hv'=>by
  obtain ⟨q,hq⟩:=List.getElem?_of_mem hv'
  have hlt:q<es.n*z:=by have:=(List.getElem?_eq_some_iff.1 hq).1;rwa [holdl] at this
  have hk:q / z<es.n:=by rw [Nat.div_lt_iff_lt_mul hz0];exact hlt
  have hrow':=Rows.l_eq es hk
  have ho:q % z<(es.f (q / z)).length:=by rw [h7 _ _ hrow'];exact Nat.mod_lt _ hz0
  have e1:=hat hrow' ho
  rw [Nat.div_add_mod' q z,hq] at e1
  cases e1
  exact (h9 _ _ (q % z) _ hrow' (List.getElem?_eq_getElem ho)).one
 have hgh:∀ g,A=some g->g≠h:=fun g hg he=>by
  subst he
  have:=hr.dis _ _ _ (f0 0 g (hA g hg).2.2.1).1 fh
  omega
 have hargs:args=#[.slice (A.map fun g=>⟨g,0,none⟩) es.n cap,.int .i64 i,.slice (some ⟨h,0,none⟩) 1 vc]:=by
  rw [arr3 hs,a0,a1,a2,hv,hv2]<;>rfl
 unfold CallsTo
 rw [hent,hargs]
 refine Calls.mono (hc w A es.n cap i h vc olds (cellsL hcur z) hi hcap hcap2 hn holdl (cellsL_len _ _) hone hnew1 hA0 (fun g hg=>⟨hgh g hg,cur,(hA g hg).1,(hA g hg).2.1,holds⟩) ⟨hcur,p1,hnews⟩) fun ed w' ⟨g',c',cur',d1,d2,d3,d4,d5,d6,d7,d8,d9,d10,d11,d12⟩=>⟨_,d1,_,rfl,?_⟩
 rw [<- hargs]
 have ob:∀ t,t=0∨t=2->∀ b,F t b->b<w.heap.size/\¬ I b/\∀ q,F0 b q:=hown
 have hg':¬ I g'/\(w.heap.size<=g'∨∀ q,F0 g' q):=by
  rcases d7 with h1 | h1
  ·obtain ⟨_,_,q1,q2⟩:=hA g' h1
   exact ⟨q2,.inr (ob 0 (.inl rfl) g' (f0 0 g' q1).1).2.2⟩
  ·exact ⟨fun hI=>absurd (hr.ro g' hI) (by omega),.inl h1⟩
 have hlt':g'<w'.heap.size:=(Array.getElem?_eq_some_iff.1 d2).1
 refine rel_ret hr (N:=fun b=>b=g'∨N0 0 b∨N2 0 b) ?_ (fun b hb=>?_) ⟨d9,d10,d11,d12,fun b hb hnF=>d8 b hb (fun hAb=>hnF 0 ((ob 0 (.inl rfl) b (f0 0 b (hA b hAb).2.2.1).1).2.2 0)),fun b cs e' fr hnF hb=>?_⟩
 ·have same:∀ {x:CV} {u:Value} {N:FP},Rep P w I x u N->(∀ b,N b->(N0 0 b/\A≠some b)∨N2 0 b)->Rep P w' I x u N:=fun {x u N} hx hN=>hx.frame (fun b hb=>by
   rcases hb with hb | hb
   ·exact d8 b (hr.ro b hb) (fun hAb=>(hA b hAb).2.2.2 hb)
   ·rcases hN b hb with ⟨q1,q2⟩ | q1
    ·exact d8 b (ob 0 (.inl rfl) b (f0 0 b q1).1).1 q2
    ·refine d8 b (ob 2 (.inr rfl) b (f2 0 b q1).1).1 (fun hAb=>?_)
     have:=hr.dis _ _ _ (f0 0 b (hA b hAb).2.2.1).1 (f2 0 b q1).1
     omega)
  have hGg:∀ b,(N0 0 b/\A≠some b)∨N2 0 b->b≠g':=fun b hb he=>by
   subst he
   rcases d7 with h1 | h1
   ·rcases hb with ⟨_,q⟩ | q
    ·exact q h1
    ·have:=hr.dis _ _ _ (f0 0 b (hA b h1).2.2.1).1 (f2 0 b q).1;omega
   ·rcases hb with ⟨q,_⟩ | q
    ·have:=(ob 0 (.inl rfl) b (f0 0 b q).1).1;omega
    ·have:=(ob 2 (.inr rfl) b (f2 0 b q).1).1;omega
  rw [show es.n+1=(insR es i row).n from rfl]
  refine .ow (fun k o=>if k<i then us k o else if k=i then us2 0 o else us (k-1) o) (fun k o=>if k<i then G k o else if k=i then G2 0 o else G (k-1) o) d2 (by rw [d3,hz]) (by simp only [insR];exact d4) d5 (.inl rfl) hg'.1 (fun k r hk=>?_) (fun k r o hk ho=>?_) (fun k r o x hk ho=>?_) (fun k o b hb=>?_) (fun k o k' o' b hb hb'=>?_)
  ·rw [hz]
   obtain ⟨_,⟨_,q⟩ | ⟨_,rfl⟩ | ⟨_,q⟩⟩:=insR_l es hi hk
   ·exact h7 _ _ q
   ·exact hrl
   ·exact h7 _ _ q
  ·rw [hz]
   obtain ⟨hlt,q⟩:=insR_l es hi hk
   have hoz:o<z:=by
    rcases q with ⟨_,q⟩ | ⟨_,rfl⟩ | ⟨_,q⟩
    ·rw [<- h7 _ _ q];exact ho
    ·rw [<- hrl];exact ho
    ·rw [<- h7 _ _ q];exact ho
   rw [d6 _ (by have:(k+1)*z<=(es.n+1)*z:=Nat.mul_le_mul_right z hlt;rw [Nat.succ_mul] at this;omega),mid_at holdl (cellsL_len _ _) hi hlt hoz]
   rcases q with ⟨q0,q⟩ | ⟨rfl,rfl⟩ | ⟨q0,q⟩
   ·simp only [q0,if_true];exact hat q ho
   ·simp only [Nat.lt_irrefl,if_false,if_true]
    rw [<- hnews o hoz]
    have:=p8 0 r o hrow ho
    rwa [Nat.zero_mul,Nat.zero_add] at this
   ·simp only [show ¬ k<i by omega,show ¬ k=i by omega,if_false];exact hat q ho
  ·obtain ⟨hlt,q⟩:=insR_l es hi hk
   rcases q with ⟨q0,q⟩ | ⟨rfl,rfl⟩ | ⟨q0,q⟩
   ·simp only [q0,if_true];exact same (h9 _ _ _ _ q ho) (fun b hb=>.inl (h10 _ _ _ hb))
   ·simp only [Nat.lt_irrefl,if_false,if_true];exact same (p9 0 _ _ _ hrow ho) (fun b hb=>.inr (p10 _ _ _ hb).1)
   ·simp only [show ¬ k<i by omega,show ¬ k=i by omega,if_false];exact same (h9 _ _ _ _ q ho) (fun b hb=>.inl (h10 _ _ _ hb))
  ·have:(N0 0 b/\A≠some b)∨N2 0 b:=by
    split at hb
    ·exact .inl (h10 _ _ _ hb)
    ·split at hb
     ·exact .inr (p10 _ _ _ hb).1
     ·exact .inl (h10 _ _ _ hb)
   exact ⟨.inr (this.imp (·.1) id),hGg b this⟩
  ·have no:∀ {k1 o1 o2:Nat},G k1 o1 b->G2 0 o2 b->False:=fun {k1 o1 o2} q1 q2=>by
    have:=hr.dis _ _ _ (f0 0 b (h10 _ _ _ q1).1).1 (f2 0 b (p10 _ _ _ q2).1).1;omega
   split at hb
   ·split at hb'
    ·exact h11 _ _ _ _ _ hb hb'
    ·split at hb'
     ·exact (no hb hb').elim
     ·have:=h11 _ _ _ _ _ hb hb';omega
   ·split at hb
    ·split at hb'
     ·exact (no hb' hb).elim
     ·split at hb'
      ·have:=p11 _ _ _ _ _ hb hb';omega
      ·exact (no hb' hb).elim
    ·split at hb'
     ·have:=h11 _ _ _ _ _ hb hb';omega
     ·split at hb'
      ·exact (no hb hb').elim
      ·have:=h11 _ _ _ _ _ hb hb';omega
 ·rcases hb with rfl | hb | hb
  ·exact ⟨hlt',hg'⟩
  ·obtain ⟨q1,q2,q3⟩:=ob 0 (.inl rfl) b (f0 0 b hb).1
   exact ⟨Nat.lt_of_lt_of_le q1 d12,q2,.inr q3⟩
  ·obtain ⟨q1,q2,q3⟩:=ob 2 (.inr rfl) b (f2 0 b hb).1
   exact ⟨Nat.lt_of_lt_of_le q1 d12,q2,.inr q3⟩
 ·have hlt:b<w.heap.size:=(Array.getElem?_eq_some_iff.1 hb).1
  exact ⟨cs,(d8 b hlt (fun hAb=>hnF (ob 0 (.inl rfl) b (f0 0 b (hA b hAb).2.2.1).1).2.2)).trans hb,fun _ _=>rfl⟩
end
end Go.Proofs.AI
namespace Go.Proofs.AI
open Go.RowKit Go.Proofs Go.Lib Go.Shelf
set_option linter.unusedVariables false
set_option linter.unusedSimpArgs false
set_option maxRecDepth 100000
theorem isAgg_of {P:Program} {t:TypeId} {d:TypeDesc} (h:P.underlying t=some d) (w:World):(isAgg t).run P w=.ok d.isRow w:=by
 cases d<;>simp [isAgg,run_underlying h,TypeDesc.isRow]
theorem sizeOf_of {P:Program} {t:TypeId} {i:TypeInfo} (h:P.info? t=some i) (w:World):(Go.sizeOf t).run P w=.ok i.size w:=by
 simp [Go.sizeOf,typeInfo,h,Sem.run]
theorem zero_of {P:Program} {t:TypeId} {i:TypeInfo} {z:Value} (h:P.info? t=some i) (hz:i.zero=some z) (w:World):(zeroValue t).run P w=.ok z w:=by
 simp [zeroValue,typeInfo,h,hz,Sem.run]
end Go.Proofs.AI
namespace Go.Proofs.AI
open Go.RowKit Go.Proofs Go.Lib Go.Shelf
set_option linter.unusedVariables false
set_option linter.unusedSimpArgs false
set_option maxRecDepth 100000
theorem setCells_heap_eq {W W1:World} (h:W.heap=W1.heap) (B o:Nat) (vs:List Value):(W.setCells B o vs).heap=(W1.setCells B o vs).heap:=by
 induction vs generalizing W W1 o with
 | nil=>exact h
 | cons v vs ih=>exact ih (by simp only [World.setCell,h]) (o+1)
theorem zc_size (z:Value) (k:Nat):(Builtin.zeroCells z.cells k).size=k*z.cells.size:=by simp [Builtin.zeroCells]
end Go.Proofs.AI
namespace Go.Proofs.AI
open Go.RowKit Go.Proofs
set_option linter.unusedVariables false
set_option linter.unusedSimpArgs false
set_option maxRecDepth 100000
theorem ent_of {P:Program} {f:FuncId} {fn:Func} {c:Code} (hf:P.funcs[f]?=some fn) (hb:fn.body=some c) (hn:(fn.name=="runtime.NumGoroutine")=false) (args:Array Value) (w:World):(callFunc f args).run P w=.ok (.enter f args) w:=by
 have hn':fn.name≠"runtime.NumGoroutine":=by simpa using hn
 simp [callFunc,program,Sem.run,hf,hn',hb]
theorem typ_del {C α:Type} (d:α) (g:α->List C) (xs:List α) (i:Nat) (hi:i<xs.length):delR (typ d g xs) i (i+1)=typ d g (xs.eraseIdx i):=by
 simp only [delR,typ,List.length_eraseIdx,if_pos hi]
 congr 1
 ·omega
 ·funext k
  simp only [List.getD_eq_getElem?_getD,List.getElem?_eraseIdx]
  split
  ·rfl
  ·rw [show k+(i+1-i)=k+1 by omega]
theorem typ_ins {C α:Type} (d:α) (g:α->List C) (xs:List α) (i:Nat) (x:α) (hi:i<=xs.length):insR (typ d g xs) i (g x)=typ d g (xs.insertIdx i x):=by
 simp only [insR,typ,List.length_insertIdx,if_pos hi]
 congr 1
 funext k
 simp only [List.getD_eq_getElem?_getD,List.getElem?_insertIdx]
 split
 ·rfl
 ·split
  ·rename_i h1 h2;subst h2;simp [hi]
  ·rfl
end Go.Proofs.AI
namespace Go.Proofs.AI
open Go.RowKit Go.Proofs
set_option linter.unusedVariables false
set_option linter.unusedSimpArgs false
set_option maxRecDepth 100000
theorem impl_MsgOk_ok (m:Msg):FunOK Tryz.prog 34 1 [] [(0,kMsg m)] (·=[(1,kB (msgB m))]):=by
 refine fun_to (E:=⟨tab,ctOf [impl_isTx_c,impl_OpOk_c,impl_in_c,impl_isService_c],46,[],[(0,[1]),(1,[1,3,4]),(2,[1,3,4,12]),(3,[1,3,4]),(4,[1,3,4,5]),(5,[1,3,4,5,23]),(6,[1,3,4,5]),(7,[2])],[],[],[],[]⟩) tab_ok mixed Tryz.func34 rfl Tryz.ntmps34 (rvs:=[.tmp 2]) Tryz.results34 rfl fun hl=>?_
 refine cast (show (let k_3:Prop:=(m.to==i_0)=false->false=msgB m;let k_2:Prop:=(m.frm==i_0)=false->false=msgB m;let k_1:Prop:=∃ (b:Int),m.tx=b/\(inR b i_0 i_29=true->(if false=true then !(m.op.kind==i_0&&(m.op.who==i_0&&(m.op.inn==i_0&&(m.op.code==i_0&&(m.op.sec==i_0&&(m.op.fam==i_0&&m.op.gen==i_0)))))) else m.op.kind==i_0&&(m.op.who==i_0&&(m.op.inn==i_0&&(m.op.code==i_0&&(m.op.sec==i_0&&(m.op.fam==i_0&&m.op.gen==i_0))))))=msgB m)/\(inR b i_0 i_29=false->false=msgB m);∃ (b:Int×Int×Int),(m.kind=b.1/\i_4=b.2.1/\i_7=b.2.2)/\(inR b.1 b.2.1 b.2.2=true->((m.kind==i_1)=true->∃ (b:Opr),(m.op.kind=b.kind/\m.op.who=b.who/\m.op.inn=b.inn/\m.op.code=b.code/\m.op.sec=b.sec/\m.op.fam=b.fam/\m.op.gen=b.gen)/\(∃ (b_1:Int×Int×Int),(m.kind=b_1.1/\i_1=b_1.2.1/\i_7=b_1.2.2)/\(inR b_1.1 b_1.2.1 b_1.2.2=true->∃ (b_2:Int),m.frm=b_2/\(inR b_2 i_1 i_3=true->((m.to==i_0)=true->∃ (b_3:Int),m.tx=b_3/\(inR b_3 i_0 i_29=true->opOk b=msgB m)/\(inR b_3 i_0 i_29=false->false=msgB m))/\k_3)/\(inR b_2 i_1 i_3=false->false=msgB m))/\(inR b_1.1 b_1.2.1 b_1.2.2=false->false=msgB m)))/\((m.kind==i_1)=false->∃ (b:Int×Int×Int),(m.kind=b.1/\i_1=b.2.1/\i_7=b.2.2)/\(inR b.1 b.2.1 b.2.2=true->∃ (b:Int),m.frm=b/\(inR b i_1 i_3=true->((m.to==i_0)=true->k_1)/\k_3)/\(inR b i_1 i_3=false->false=msgB m))/\(inR b.1 b.2.1 b.2.2=false->false=msgB m)))/\(inR b.1 b.2.1 b.2.2=false->((m.kind==i_1)=true->∃ (b:Opr),(m.op.kind=b.kind/\m.op.who=b.who/\m.op.inn=b.inn/\m.op.code=b.code/\m.op.sec=b.sec/\m.op.fam=b.fam/\m.op.gen=b.gen)/\(∃ (b_1:Int×Int×Int),(m.kind=b_1.1/\i_1=b_1.2.1/\i_7=b_1.2.2)/\(inR b_1.1 b_1.2.1 b_1.2.2=true->∃ (b_2:Int),m.to=b_2/\(inR b_2 i_1 i_3=true->((m.frm==i_0)=true->∃ (b_3:Int),m.tx=b_3/\(inR b_3 i_0 i_29=true->opOk b=msgB m)/\(inR b_3 i_0 i_29=false->false=msgB m))/\k_2)/\(inR b_2 i_1 i_3=false->false=msgB m))/\(inR b_1.1 b_1.2.1 b_1.2.2=false->false=msgB m)))/\((m.kind==i_1)=false->∃ (b:Int×Int×Int),(m.kind=b.1/\i_1=b.2.1/\i_7=b.2.2)/\(inR b.1 b.2.1 b.2.2=true->∃ (b:Int),m.to=b/\(inR b i_1 i_3=true->((m.frm==i_0)=true->k_1)/\k_2)/\(inR b i_1 i_3=false->false=msgB m))/\(inR b.1 b.2.1 b.2.2=false->false=msgB m))))=_ by kernel_rfl) ?_
 delta i_0 i_1 i_3 i_4 i_7 i_29
 simp only [zza,zzb,true_and,and_true,and_self,ne_eq,cI_app,cWrtO_app,cWrtS_app,cWrtO_1,cItemO_1,opr_ex,zcast,frz_nil,nil_map,Option.getD_none,Option.getD_some,opr_dz,Bool.false_eq_true,if_false]
 repeat' first | (with_reducible apply And.intro) | (with_reducible intro h)
 all_goals (rw [Bool.eq_iff_iff];simp_all [msgB,inR];try omega)
 all_goals (intro _ _ _;split<;>omega)
def impl_MsgOk_c:Con Tryz.prog:=con0 [.lend] fun b:Msg=>impl_MsgOk_ok b
end Go.Proofs.AI
namespace Go.Proofs.AI
open Go.RowKit Go.Proofs
set_option linter.unusedVariables false
set_option linter.unusedSimpArgs false
theorem FunOK.sh0 {P:Program} {f:FuncId} {post:L->Prop} {e:TypeId} {es:Rows CV} (h0:es.n=0)
  (h:∀ (A:Option Addr) (c:Nat),FunOK P f 1 [] [(0,⟨.one,[.c (.vl (.slice A 0 c))],[]⟩)] post):FunOK P f 1 [] [(0,⟨.one,[.c (.sh e es)],[]⟩)] post:=by
 intro F0 I0 args w hs ⟨I,U,B,F,hr⟩
 obtain ⟨k1,hroot,⟨N,n1,n2,n3⟩,k4⟩:=hr.key 0 ⟨.one,[.c (.sh e es)],[]⟩ (by simp [mk,up])
 have hrep:Rep P w I (.sh e es) (U 0 0) (N 0):=n1 0 _ rfl
 obtain ⟨A,c,us,hv,_⟩:=hrep.sh_inv
 rw [h0] at hv
 refine h A c F0 I0 args w hs ⟨I,U,B,F,{ hr with key:=fun t K hK=>?_,may:=fun t b hb=>?_ }⟩
 ·simp only [mk,up] at hK
  split at hK
  ·rename_i ht
   subst ht;cases hK
   refine ⟨k1,hroot.any rfl rfl,⟨N,fun o x hx=>?_,n2,fun o b hb=>⟨(n3 o b hb).1,fun q=>by cases q.1⟩⟩,fun b hb=>by cases hb.1⟩
   cases o with
   | zero =>
    simp at hx;subst hx
    show Rep P w I (.vl (.slice A 0 c)) (U 0 0) (N 0)
    rw [hv];exact .vl rfl
   | succ o=>simp at hx
  ·cases hK
 ·rcases hr.may t b hb with h1 | h1 | ⟨K,h1,h2,_⟩
  ·exact .inl h1
  ·exact .inr (.inl h1)
  ·simp only [mk,up] at h1
   split at h1
   ·cases h1;cases h2.1
   ·cases h1
end Go.Proofs.AI
namespace Go.Proofs.AI
open Go.RowKit Go.Proofs
set_option linter.unusedVariables false
set_option linter.unusedSimpArgs false
set_option maxRecDepth 100000
theorem CloneSz_ok (A:Option Addr) (q:Nat):FunOK Tryz.prog 172 1 [] [(0,k1 (.vl (.slice A 0 q)))] (·=[(1,k1 (oS []))]):=by
 refine fun_to (E:=⟨tab,ctOf [],8,[],[(0,[0,5,6,7]),(1,[0,4,5,6,7]),(2,[0,2,5,6,7]),(3,[0,2,5,6,7])],[],[],[],[]⟩) tab_ok mixed Tryz.func172 rfl Tryz.ntmps172 (rvs:=[.tmp 2]) Tryz.results172 rfl fun hl=>?_
 refine cast (show (True/\((if false=true then !A.isNone else A.isNone)=true->n_0=n_0)/\((if false=true then !A.isNone else A.isNone)=false->(n_0+n_0)*n_16<=n_140737488355328/\cnRs (appR (raw []) nilR)=t_S []))=_ by kernel_rfl) ?_
 delta n_0 n_140737488355328 t_S n_16
 simp only [zza,zzb,true_and,and_true,and_self,ne_eq,cI_app,cWrtO_app,cWrtS_app,cWrtO_1,cItemO_1,opr_ex,zcast,frz_nil,nil_map,Option.getD_none,Option.getD_some]
 cases A<;>simp
theorem CloneSp_ok (xs:List ByteArray) (hpre:0<xs.length/\xs.length<=1000):FunOK Tryz.prog 172 1 [] [(0,k1 (sS xs))] (·=[(1,k1 (oS xs))]):=by
 refine fun_to (E:=⟨tab,ctOf [],8,[],[(0,[0,5,6,7]),(1,[0,4,5,6,7]),(2,[0,2,5,6,7]),(3,[0,2,5,6,7])],[],[],[],[]⟩) tab_ok mixed Tryz.func172 rfl Tryz.ntmps172 (rvs:=[.tmp 2]) Tryz.results172 rfl fun hl=>?_
 refine cast (show (n_0<xs.length/\((if false=true then true else false)=true->xs.length=n_0)/\((if false=true then true else false)=false->(n_0+xs.length)*n_16<=n_140737488355328/\cnRs (appR (raw []) (typ ByteArray.empty eS xs))=t_S xs))=_ by kernel_rfl) ?_
 delta n_0 n_140737488355328 t_S n_16
 simp only [zza,zzb,true_and,and_true,and_self,ne_eq,cI_app,cWrtO_app,cWrtS_app,cWrtO_1,cItemO_1,opr_ex,zcast,frz_nil,nil_map,Option.getD_none,Option.getD_some]
 refine ⟨hpre.1,fun h=>by simp at h,fun _=>⟨by omega,?_⟩⟩
 simp
theorem CloneIz_ok (A:Option Addr) (q:Nat):FunOK Tryz.prog 117 1 [] [(0,k1 (.vl (.slice A 0 q)))] (·=[(1,k1 (oI []))]):=by
 refine fun_to (E:=⟨tab,ctOf [],8,[],[(0,[0,5,6,7]),(1,[0,4,5,6,7]),(2,[0,2,5,6,7]),(3,[0,2,5,6,7])],[],[],[],[]⟩) tab_ok mixed Tryz.func117 rfl Tryz.ntmps117 (rvs:=[.tmp 2]) Tryz.results117 rfl fun hl=>?_
 refine cast (show (True/\((if false=true then !A.isNone else A.isNone)=true->n_0=n_0)/\((if false=true then !A.isNone else A.isNone)=false->(n_0+n_0)*n_8<=n_140737488355328/\cnRs (appR (raw []) nilR)=t_I []))=_ by kernel_rfl) ?_
 delta t_I n_0 n_8 n_140737488355328
 simp only [zza,zzb,true_and,and_true,and_self,ne_eq,cI_app,cWrtO_app,cWrtS_app,cWrtO_1,cItemO_1,opr_ex,zcast,frz_nil,nil_map,Option.getD_none,Option.getD_some]
 cases A<;>simp
theorem CloneS_ok (xs:List ByteArray) (hpre:xs.length<=1000):FunOK Tryz.prog 172 1 [] [(0,k1 (sS xs))] (·=[(1,k1 (oS xs))]):=by
 rcases Nat.eq_zero_or_pos xs.length with h | h
 ·obtain rfl:=List.length_eq_zero_iff.1 h
  exact FunOK.sh0 rfl CloneSz_ok
 ·exact CloneSp_ok xs ⟨h,hpre⟩
def CloneS_c:Con Tryz.prog:=conP [.lend] fun (b:List ByteArray) h=>CloneS_ok b h
theorem CloneI_ok (xs:List Int) (hpre:xs.length<=1000):FunOK Tryz.prog 117 1 [] [(0,k1 (sI xs))] (·=[(1,k1 (oI xs))]):=by
 rcases Nat.eq_zero_or_pos xs.length with h | h
 ·obtain rfl:=List.length_eq_zero_iff.1 h
  exact FunOK.sh0 rfl CloneIz_ok
 ·exact slices_Clone_int_ok xs ⟨h,hpre⟩
def CloneI_c:Con Tryz.prog:=conP [.lend] fun (b:List Int) h=>CloneI_ok b h
theorem impl_writesOf_ok (ws:List Wrt) (hpre:ws.length<=1000/\∀ w∈ws,w.val.length<=1000):FunOK Tryz.prog 173 1 [] [(0,k1 (sWrts ws))] (·=[(1,k1 (oWrts ws))]):=by
 refine fun_to (E:=⟨tab,ctOf [CloneI_c],25,[],[(0,[0,3,12,14,16,19,20,21,22]),(1,[0,3,12,14,16,19,20,21,22]),(2,[0,3,6,7,8,12,14,16,19,20,21,22]),(3,[0,3,6,7,8,9,12,14,16,19,20,21,22]),(4,[0,3,5,6,7,8,12,14,16,19,20,21,22]),(5,[0,3,6,7,8,12,14,16,19,20,21,22]),(6,[0,3,6,7,8,12,14,16,19,20,21,22]),(7,[2,3,12,14,16,19,20,21,22,24])],[(0,⟨List Wrt×Nat,fun x=>[(0,(k1 (.sh 94 (typ dWrt eWrtS ws)))),(3,(k1 (oWrts (x.1)))),(6,(k1 (.sh 94 (typ dWrt eWrtS ws)))),(7,(k1 (.n .i64 ((↑ws.length:Int))))),(8,(k1 (.n .i64 (x.2:Int))))]⟩)],[(7,[(1000000,[])])],[],[]⟩) tab_ok mixed Tryz.func173 rfl Tryz.ntmps173 (rvs:=[.tmp 2]) Tryz.results173 rfl fun hl=>?_
 refine cast (show (∃ (pre:List Wrt×Nat->Prop),∃ (μ:List Wrt×Nat->Nat),∃ (x0:List Wrt×Nat),(q_c ws ws/\x0.1.length=n_0/\q_c ws ws/\zi ws.length=zi ws.length/\i_0=zi x0.2)/\pre x0/\∀ (x:List Wrt×Nat),pre x->(decide (zi x.2<zi ws.length)=true->(i_0<=zi x.2/\zi x.2<zi ws.length)/\∃ (b:List Int),q_I (g_Wrt ws x.2).val b/\b.length<=n_1000/\(x.1.length+n_1)*n_48<=n_140737488355328/\∃ (y:List Wrt×Nat),(q_c ws ws/\cnRs (appR (typ dWrt eWrtO x.1) (raw [[CV.s (g_Wrt ws x.2).key,CV.b (g_Wrt ws x.2).del,CV.ow n_3 (typ i_0 eI b)]]))=t_d y.1/\q_c ws ws/\zi ws.length=zi ws.length/\wr_ ((zi x.2)+i_1)=zi y.2)/\pre y/\μ y<μ x)/\(decide (zi x.2<zi ws.length)=false->q_d x.1 ws))=_ by kernel_rfl) ?_
 delta i_0 i_1 wr_ zi t_I q_I n_0 n_140737488355328 n_1 n_3 g_Wrt t_c q_c n_1000 t_d q_d n_48
 obtain ⟨p1,p2⟩:=hpre
 simp only [zza,zzb,true_and,and_true,and_self,ne_eq,cI_app,cWrtO_app,cWrtS_app,cWrtO_1,cItemO_1,opr_ex,zcast,frz_nil,nil_map,Option.getD_none,Option.getD_some]
 refine ⟨fun x=>x.2<=ws.length/\x.1=ws.take x.2,fun x=>ws.length-x.2,[],rfl,⟨by omega,rfl⟩,fun a i hp=>?_⟩
 obtain ⟨h1,h2⟩:=hp
 simp only at h1 h2
 subst h2
 refine ⟨fun hlt=>?_,fun hge=>?_⟩
 ·have hm:ws.getD i dWrt∈ws:=by rw [getD_lt (by omega)];exact List.getElem_mem _
  exact ⟨by omega,hlt,p2 _ hm,by rw [List.length_take];omega,i+1,wrapN (by omega),⟨by simp only;omega,(take_succ (d:=dWrt) (by omega)).symm⟩,by simp only;omega⟩
 ·have:i=ws.length:=by omega
  subst this
  simp
def impl_writesOf_c:Con Tryz.prog:=⟨173,1,[.lend],[],List Wrt,some fun b=>b.length<=1000/\∀ w∈b,w.val.length<=1000,fun b=>[(0,k1 (sWrts b))],fun b=>[(1,k1 (oWrts b))],[],fun b h=>impl_writesOf_ok b h⟩
theorem impl_LogNote_copied_ok (n:Note) (hpre:smallN n):FunOK Tryz.prog 132 1 [] [(0,kNoteS n)] (·=[(1,kNoteO n)]):=by
 refine fun_to (E:=⟨tab,ctOf [CloneS_c,impl_writesOf_c],14,[],[(0,[1,2,4,6,9,12,13]),(1,[2,4,6,9,12,13])],[],[],[],[]⟩) tab_ok mixed Tryz.func132 rfl Tryz.ntmps132 (rvs:=[.cell 2 72]) Tryz.results132 rfl fun hl=>?_
 refine cast (show (∃ (b:List ByteArray),q_S n.locks b/\b.length<=n_1000/\∃ (b_1:List Wrt),q_c n.writes b_1/\(b_1.length<=n_1000/\∀ (w:Wrt),w∈b_1->w.val.length<=n_1000)/\n.kind=n.kind/\n.tx=n.tx/\q_S b n.locks/\q_d b_1 n.writes)=_ by kernel_rfl) ?_
 delta t_c q_c n_1000 t_S t_d q_S q_d
 obtain ⟨p1,p2,p3⟩:=hpre
 simp only [zza,zzb,true_and,and_true,and_self,ne_eq,cI_app,cWrtO_app,cWrtS_app,cWrtO_1,cItemO_1,opr_ex,zcast,frz_nil,nil_map,Option.getD_none,Option.getD_some]
 exact ⟨p1,p2,p3⟩
def impl_LogNote_copied_c:Con Tryz.prog:=conP [.lend] fun (b:Note) h=>impl_LogNote_copied_ok b h
theorem impl_LogDisk_copied_ok (d:Disk) (hpre:smallD d):FunOK Tryz.prog 93 1 [] [(0,kDiskS d)] (·=[(1,kDiskO d)]):=by
 refine fun_to (E:=⟨tab,ctOf [impl_LogNote_copied_c],25,[],[(0,[1,2,3,24]),(1,[1,2,3,24]),(2,[1,2,3,9,10,11,12,24]),(3,[1,2,3,9,10,11,12,13,24]),(4,[1,2,3,5,9,10,11,12,24]),(5,[1,2,3,9,10,11,12,24]),(6,[1,2,3,9,10,11,12,24]),(7,[2,3,24])],[(0,⟨List Note×Nat,fun x=>[(1,⟨.box,[.c (.sh 72 (typ dNote eNoteS d.notes)),.c (.n .i64 d.safe)],[]⟩),(2,⟨.box,[.c (.ow 72 nilR),.c (.n .i64 ((0:Int)))],[]⟩),(3,⟨.box,[.c (oNotes (x.1)),.c (.n .i64 d.safe)],[]⟩),(9,⟨.one,[.pr 1 0 0],[]⟩),(10,(k1 (.sh 72 (typ dNote eNoteS d.notes)))),(11,(k1 (.n .i64 ((↑d.notes.length:Int))))),(12,(k1 (.n .i64 (x.2:Int))))]⟩)],[],[],[]⟩) tab_ok mixed Tryz.func93 rfl Tryz.ntmps93 (rvs:=[.cell 2 25]) Tryz.results93 rfl fun hl=>?_
 refine cast (show (let k_3:Prop:=n_1=n_1/\n_0=n_0/\true=true;let k_2:Prop:=q_e d.notes d.notes/\d.safe=d.safe;let k_1:Prop:=zi d.notes.length=zi d.notes.length;∃ (pre:List Note×Nat->Prop),∃ (μ:List Note×Nat->Nat),∃ (x0:List Note×Nat),(k_2/\(cnRs nilR=cnRs nilR/\i_0=i_0)/\(cnRs nilR=t_f x0.1/\d.safe=d.safe)/\k_3/\q_e d.notes d.notes/\k_1/\i_0=zi x0.2)/\pre x0/\(∀ (x:List Note×Nat),pre x->(decide (zi x.2<zi d.notes.length)=true->(i_0<=zi x.2/\zi x.2<zi d.notes.length)/\(∃ (b:Note),((g_Note d.notes x.2).kind=b.kind/\(g_Note d.notes x.2).tx=b.tx/\q_S (g_Note d.notes x.2).locks b.locks/\q_c (g_Note d.notes x.2).writes b.writes)/\smallN b/\(x.1.length+n_1)*n_64<=n_140737488355328/\(∃ (y:List Note×Nat),(k_2/\(cnRs nilR=cnRs nilR/\i_0=i_0)/\(cnRs (appR (typ dNote eNoteO x.1) (raw [[cn_ b.kind,cn_ b.tx,CV.ow n_9 (typ ByteArray.empty eS b.locks),CV.ow n_94 (typ dWrt eWrtO b.writes)]]))=t_f y.1/\d.safe=d.safe)/\k_3/\q_e d.notes d.notes/\k_1/\wr_ ((zi x.2)+i_1)=zi y.2)/\pre y/\μ y<μ x)))/\(decide (zi x.2<zi d.notes.length)=false->q_f x.1 d.notes/\d.safe=d.safe)))=_ by kernel_rfl) ?_
 delta i_0 i_1 wr_ zi n_0 n_140737488355328 n_1 t_c q_c cn_ t_S q_S g_Note t_e q_e t_f q_f n_64 n_9 n_94
 obtain ⟨p1,p2⟩:=hpre
 simp only [zza,zzb,true_and,and_true,and_self,ne_eq,cI_app,cWrtO_app,cWrtS_app,cWrtO_1,cItemO_1,opr_ex,zcast,frz_nil,nil_map,Option.getD_none,Option.getD_some]
 refine ⟨fun x=>x.2<=d.notes.length/\x.1=d.notes.take x.2,⟨by omega,rfl⟩,fun x=>d.notes.length-x.2,fun a i hp=>?_⟩
 obtain ⟨h1,h2⟩:=hp
 simp only at h1 h2
 subst h2
 refine ⟨fun hlt=>?_,fun hge=>?_⟩
 ·have hm:d.notes.getD i dNote∈d.notes:=by rw [getD_lt (by omega)];exact List.getElem_mem _
  refine ⟨by omega,hlt,p2 _ hm,by rw [List.length_take];omega,d.notes.take (i+1),?_,i+1,wrapN (by omega),⟨by simp only;omega,rfl⟩,by simp only;omega⟩
  rw [take_succ (d:=dNote) (by omega)]
  simp
 ·have:i=d.notes.length:=by omega
  subst this
  simp
def impl_LogDisk_copied_c:Con Tryz.prog:=conP [.lend] fun (b:Disk) h=>impl_LogDisk_copied_ok b h
theorem any_flipI (a:List Int) (n:Int):(a.any fun x=>n==x)=a.any fun x=>x==n:=by
 congr 1;funext x;rw [Bool.eq_iff_iff,beq_iff_eq,beq_iff_eq];exact eq_comm
end Go.Proofs.AI
namespace Go.Proofs.AI
open Go.RowKit Go.Proofs
set_option linter.unusedVariables false
set_option linter.unusedSimpArgs false
set_option maxRecDepth 100000
def addI (d:Disk) (n:Note) (s:Bool):Disk:=if d.notes.length=120 then d else ⟨d.notes++[n],if s=true then (d.notes.length:Int)+1 else d.safe⟩
theorem impl_LogDisk_add_ok (d:Disk) (n:Note) (s:Bool) (hpre:smallN n/\d.notes.length<=1000):FunOK Tryz.prog 176 3 [0] [(0,⟨.box,cKDiskO d,[]⟩),(1,kNoteS n),(2,kB s)] (·=[(3,kB (!decide (d.notes.length=120))),(0,⟨.box,cKDiskO (addI d n s),[]⟩)]):=by
 refine fun_to (E:=⟨tab,ctOf [impl_LogNote_copied_c],33,[0],[(0,[0,2,4]),(1,[0,2,4,12]),(2,[0,6]),(3,[0,2]),(4,[0,24]),(5,[0]),(6,[0,6])],[],[],[],[]⟩) tab_ok mixed Tryz.func176 rfl Tryz.ntmps176 (rvs:=[.tmp 6]) Tryz.results176 rfl fun hl=>?_
 refine cast (show (let k_1:Prop:=true=!decide (d.notes.length=n_120);((zi d.notes.length==i_120)=true->false=!decide (d.notes.length=n_120)/\q_f d.notes (addI d n s).notes/\d.safe=(addI d n s).safe)/\((zi d.notes.length==i_120)=false->∃ (b:Note),let k_2:Prop:=cnRs (appR (typ dNote eNoteO d.notes) (raw [[cn_ b.kind,cn_ b.tx,CV.ow n_9 (typ ByteArray.empty eS b.locks),CV.ow n_94 (typ dWrt eWrtO b.writes)]]))=t_f (addI d n s).notes;(n.kind=b.kind/\n.tx=b.tx/\q_S n.locks b.locks/\q_c n.writes b.writes)/\smallN b/\(d.notes.length+n_1)*n_64<=n_140737488355328/\(s=true->k_1/\k_2/\(zi (d.notes.length+n_1))=(addI d n s).safe)/\(s=false->k_1/\k_2/\d.safe=(addI d n s).safe)))=_ by kernel_rfl) ?_
 delta zi n_140737488355328 n_1 t_c q_c cn_ t_S q_S i_120 t_f q_f n_64 n_9 n_94 n_120
 simp only [zza,zzb,true_and,and_true,and_self,ne_eq,cI_app,cWrtO_app,cWrtS_app,cWrtO_1,cItemO_1,opr_ex,zcast,frz_nil,nil_map,Option.getD_none,Option.getD_some]
 refine ⟨fun h=>?_,fun h=>?_⟩
 ·have h:d.notes.length=120:=by omega
  simp [addI,h]
 ·have h:¬ d.notes.length=120:=by omega
  refine ⟨hpre.1,by omega,fun hs=>?_,fun hs=>?_⟩<;>simp [addI,h,hs]
def impl_LogDisk_add_c:Con Tryz.prog:=conP [.ptr,.lend,.lend] fun (b:Disk×Note×Bool) h=>impl_LogDisk_add_ok (b.1) (b.2.1) (b.2.2) h
end Go.Proofs.AI
namespace Go.Proofs.AI
open Go.RowKit Go.Proofs
set_option linter.unusedVariables false
set_option linter.unusedSimpArgs false
set_option maxRecDepth 100000
theorem diskR_le {l:List Int}:∀ (k:Nat) (d:Disk) (p:Nat),rdB l p (111*k)->(diskR l k d p).2<=p+111*k
 | 0,d,p,h=>by simp [diskR]
 | k+1,d,p,h=>by
  have h1:=(noteD_le (l:=l) (p:=p) 0 (rdB_le h (by omega))).1
  have h2:=diskR_le k (addD d (noteD l p 0).1 (pickB l (noteD l p 0).2 2==0)).1 ((noteD l p 0).2+1) (rdB_le h (by omega))
  rw [diskR];omega
theorem disk0_le {l:List Int} {p:Nat} (h:rdB l p 1400):(disk0 l p).2<=p+1000:=by
 have b:=pick_lt (l:=l) (p:=p) (n:=10) (rdB_le h (by omega):rdB l p 1) (by omega)
 have:=diskR_le (l:=l) (pickB l p 10).toNat ⟨[],0⟩ (p+1) (rdB_le h (by omega))
 simp only [disk0];omega
theorem diskD_le {l:List Int} {p:Nat} (n:Int) (h:rdB l p 1400):(diskD l p n).2<=p+1200:=by
 have h1:=disk0_le h
 have h2:=odd_le l (disk0 l p).2 n
 have h3:=(noteD_le (l:=l) (p:=(oddB l (disk0 l p).2 n).2+1) 1 (rdB_le h (by omega))).1
 rw [diskD_eq]
 split
 ·simp only [diskBent]
  repeat' split
  all_goals simp only<;>omega
 ·simp only;omega
theorem frontD_le {l:List Int} {p:Nat} (n:Int) (h:rdB l p 4000):(frontD l p n).2<=p+2500:=by
 have h1:=playD_le50 (l:=l) (p:=p) (rdB_le h (by omega))
 have h2:=odd_le l (playD l p 50).2 n
 have h3:=diskD_le (l:=l) (p:=(oddB l (playD l p 50).2 n).2+1) 2 (rdB_le h (by omega))
 have h4:=op_le (l:=l) (p:=(oddB l (playD l p 50).2 n).2+2) 2 (rdB_le h (by omega))
 rw [frontD_eq]
 split
 ·simp only [frontBent]
  repeat' split
  all_goals simp only<;>omega
 ·simp only;omega
end Go.Proofs.AI
namespace Go.Proofs.AI
open Go.RowKit Go.Proofs Go.Lib Go.Shelf
set_option linter.unusedVariables false
set_option linter.unusedSimpArgs false
set_option maxRecDepth 100000
theorem int_info:∃ i:TypeInfo,Tryz.prog.info? 3=some i/\i.size=1/\i.bytes=8/\i.zero=some (.int .i64 0):=⟨_,rfl,rfl,rfl,rfl⟩
set_option maxHeartbeats 4000000 in
theorem insI_end_room (w:World) (g n c h vc:Nat) (olds news:List Value) (hc:n+1<=c) (hcm:c<=maxLen) (hol:olds.length=n*1) (hnl:news.length=1) (h1n:∀ v∈news,v.oneCell'=true)
  (cur:Array Value) (hg:w.heap[g]?=some (.cells cur 3 (0,0))) (hcur:cur.size=c*1) (hold:∀ q,q<n*1->cur[q]?=olds[q]?) (hcu:Array Value) (hh:w.heap[h]?=some (.cells hcu 3 (0,0))) (hnew:∀ q,q<1->hcu[q]?=news[q]?) :
  Calls Tryz.prog 204 #[.slice (some ⟨g,0,none⟩) n c,.int .i64 n,.slice (some ⟨h,0,none⟩) 1 vc] w fun ed w'=>∃ (g' c':Nat) (cur':Array Value),ed=.returned (.slice (some ⟨g',0,none⟩) (n+1) c')/\w'.heap[g']?=some (.cells cur' 3 (0,0))/\cur'.size=c'*1/\n+1<=c'/\c'<=maxLen /\
  (∀ q,q<(n+1)*1->cur'[q]?=(olds.take (n*1)++news++olds.drop (n*1))[q]?)/\((some g)=some g'∨w.heap.size<=g')/\(∀ b,b<w.heap.size->(some g)≠some b->w'.heap[b]?=w.heap[b]?)/\w'.os=w.os/\w'.tape=w.tape/\w'.output=w.output/\w.heap.size<=w'.heap.size:=by
 have mixed:Tryz.prog.follows .mixedOrders=true:=rfl
 obtain ⟨i0,hi0,hzs,hzb,hzz⟩:=int_info
 have t33:Tryz.prog.underlying 34=some (.slice 3):=rfl
 have t3:Tryz.prog.underlying 3=some (.int .i64):=rfl
 have t4:Tryz.prog.underlying 4=some .bool:=rfl
 have u33:=run_underlying t33
 have u3:=run_underlying t3
 have u4:=run_underlying t4
 have a33:=isAgg_of t33
 have a3:=isAgg_of t3
 have a4:=isAgg_of t4
 simp only [TypeDesc.isRow] at a33 a3 a4
 have z75:∀ w,(Go.sizeOf 3).run Tryz.prog w=.ok 1 w:=fun w=>by rw [sizeOf_of hi0,hzs]
 obtain ⟨i33,e33,s33,y33⟩:∃ i:TypeInfo,Tryz.prog.info? 34=some i/\i.size=1/\i.zero=some (.slice none 0 0):=⟨_,rfl,rfl,rfl⟩
 obtain ⟨i3,e3,q3,y3⟩:∃ i:TypeInfo,Tryz.prog.info? 3=some i/\i.size=1/\i.zero=some (.int .i64 0):=⟨_,rfl,rfl,rfl⟩
 obtain ⟨i4,e4,q4,y4⟩:∃ i:TypeInfo,Tryz.prog.info? 4=some i/\i.size=1/\i.zero=some (.bool false):=⟨_,rfl,rfl,rfl⟩
 have z33:∀ w,(Go.sizeOf 34).run Tryz.prog w=.ok 1 w:=fun w=>by rw [sizeOf_of e33,s33]
 have z3:∀ w,(Go.sizeOf 3).run Tryz.prog w=.ok 1 w:=fun w=>by rw [sizeOf_of e3,q3]
 have z4:∀ w,(Go.sizeOf 4).run Tryz.prog w=.ok 1 w:=fun w=>by rw [sizeOf_of e4,q4]
 have v33:=zero_of e33 y33
 have v3:=zero_of e3 y3
 have v4:=zero_of e4 y4
 have v75:=zero_of hi0 hzz
 have hm:c<=9223372036854775807:=by unfold maxLen at hcm;omega
 have hrun:∀ ty,(Builtin.append_ #[34,34] ty #[.slice (some ⟨g,0,none⟩) n c,.slice (some ⟨h,0,none⟩) 1 vc]).run Tryz.prog w=.ok (.slice (some ⟨g,0,none⟩) (n+1) c) (w.setCells g (0+n*i0.size) news):=fun ty =>
  run_append_room_cells w 34 ty 3 i0 t33 hi0 g 0 n c ⟨h,0,none⟩ 1 vc news (by rw [hnl,hzs]) (fun j u hj=>by
   rw [Addr.add_lit,cell_of hh,Nat.zero_add,hnew j (by have:=(List.getElem?_eq_some_iff.1 hj).1;omega)];exact hj) h1n hc
   (fun j hj=>by rw [cell_of hg,hzs,Array.getElem?_eq_getElem (by omega)]<;>rfl) (fun j hj=>frozen_of hg _)
 obtain ⟨cur',c1,c2,c3,c4⟩:=setCells_heap g news (0+n*i0.size) w hg
 have o1:=oth_setCells g news (0+n*i0.size) w
 rw [hzs] at hrun c1 c3 c4 o1
 obtain ⟨W1,hW1⟩:∃ W1,W1=w.setCells g (0+n*1) news:=⟨_,rfl⟩
 rw [<- hW1] at hrun c1 o1
 have fin:Hid (∃ (g' c':Nat) (cur':Array Value),Ending.returned (.slice (some ⟨g,0,none⟩) (n+1) c)=.returned (.slice (some ⟨g',0,none⟩) (n+1) c')/\W1.heap[g']?=some (.cells cur' 3 (0,0))/\cur'.size=c'*1/\n+1<=c'/\c'<=maxLen /\
  (∀ q,q<(n+1)*1->cur'[q]?=(olds.take (n*1)++news++olds.drop (n*1))[q]?)/\(some g=some g'∨w.heap.size<=g')/\(∀ b,b<w.heap.size->some g≠some b->W1.heap[b]?=w.heap[b]?)/\W1.os=w.os/\W1.tape=w.tape/\W1.output=w.output/\w.heap.size<=W1.heap.size):=by
  refine ⟨g,c,cur',rfl,c1,by rw [c2,hcur],hc,hcm,fun q hq=>?_,.inl rfl,fun b hb hne=>o1.block b hb (fun e=>hne (by rw [e])),o1.os,o1.tape,o1.output,o1.size⟩
  rw [List.take_of_length_le (by omega),List.drop_eq_nil_of_le (by omega),List.append_nil]
  by_cases hlt:q<n*1
  ·rw [List.getElem?_append_left (by omega),c3 q (by omega),hold q hlt]
  ·obtain ⟨t,rfl⟩:∃ t,q=n*1+t:=⟨q-n*1,by omega⟩
   rw [List.getElem?_append_right (by omega),hol,Nat.add_sub_cancel_left]
   have ht:t<news.length:=by omega
   have:=c4 t _ (List.getElem?_eq_getElem ht) (by omega)
   rw [show 0+n*1+t=n*1+t by omega] at this
   rw [this,List.getElem?_eq_getElem ht]
 clear hW1 c1 c2 c3 c4 o1 hg hh hold hnew
 go_enter Tryz.func204,Tryz.ntmps204
 go_wp2_with (at_builtin;refine Lib.wpList_append_run _ rfl _ _ _ _ rfl _ _ rfl rfl _ _ (hrun _) ?_)
 go_ret
 exact fin.out
set_option maxHeartbeats 4000000 in
theorem insI_end_grow (w:World) (A:Option Nat) (n c h vc:Nat) (olds news:List Value) (hn:n<=1000) (hnc:n<=c) (hc:c<n+1) (hol:olds.length=n*1) (hnl:news.length=1) (h1n:∀ v∈news,v.oneCell'=true)
  (hA0:A=none->n=0/\c=0) (hA:∀ g,A=some g->∃ cur:Array Value,w.heap[g]?=some (.cells cur 3 (0,0))/\∀ q,q<n*1->cur[q]?=olds[q]?) (hcu:Array Value) (hh:w.heap[h]?=some (.cells hcu 3 (0,0))) (hnew:∀ q,q<1->hcu[q]?=news[q]?) :
  Calls Tryz.prog 204 #[.slice (A.map fun g=>⟨g,0,none⟩) n c,.int .i64 n,.slice (some ⟨h,0,none⟩) 1 vc] w fun ed w'=>∃ (g' c':Nat) (cur':Array Value),ed=.returned (.slice (some ⟨g',0,none⟩) (n+1) c')/\w'.heap[g']?=some (.cells cur' 3 (0,0))/\cur'.size=c'*1/\n+1<=c'/\c'<=maxLen /\
  (∀ q,q<(n+1)*1->cur'[q]?=(olds.take (n*1)++news++olds.drop (n*1))[q]?)/\((A)=some g'∨w.heap.size<=g')/\(∀ b,b<w.heap.size->(A)≠some b->w'.heap[b]?=w.heap[b]?)/\w'.os=w.os/\w'.tape=w.tape/\w'.output=w.output/\w.heap.size<=w'.heap.size:=by
 have mixed:Tryz.prog.follows .mixedOrders=true:=rfl
 obtain ⟨i0,hi0,hzs,hzb,hzz⟩:=int_info
 have t33:Tryz.prog.underlying 34=some (.slice 3):=rfl
 have t3:Tryz.prog.underlying 3=some (.int .i64):=rfl
 have t4:Tryz.prog.underlying 4=some .bool:=rfl
 have u33:=run_underlying t33
 have u3:=run_underlying t3
 have u4:=run_underlying t4
 have a33:=isAgg_of t33
 have a3:=isAgg_of t3
 have a4:=isAgg_of t4
 simp only [TypeDesc.isRow] at a33 a3 a4
 have z75:∀ w,(Go.sizeOf 3).run Tryz.prog w=.ok 1 w:=fun w=>by rw [sizeOf_of hi0,hzs]
 obtain ⟨i33,e33,s33,y33⟩:∃ i:TypeInfo,Tryz.prog.info? 34=some i/\i.size=1/\i.zero=some (.slice none 0 0):=⟨_,rfl,rfl,rfl⟩
 obtain ⟨i3,e3,q3,y3⟩:∃ i:TypeInfo,Tryz.prog.info? 3=some i/\i.size=1/\i.zero=some (.int .i64 0):=⟨_,rfl,rfl,rfl⟩
 obtain ⟨i4,e4,q4,y4⟩:∃ i:TypeInfo,Tryz.prog.info? 4=some i/\i.size=1/\i.zero=some (.bool false):=⟨_,rfl,rfl,rfl⟩
 have z33:∀ w,(Go.sizeOf 34).run Tryz.prog w=.ok 1 w:=fun w=>by rw [sizeOf_of e33,s33]
 have z3:∀ w,(Go.sizeOf 3).run Tryz.prog w=.ok 1 w:=fun w=>by rw [sizeOf_of e3,q3]
 have z4:∀ w,(Go.sizeOf 4).run Tryz.prog w=.ok 1 w:=fun w=>by rw [sizeOf_of e4,q4]
 have v33:=zero_of e33 y33
 have v3:=zero_of e3 y3
 have v4:=zero_of e4 y4
 have v75:=zero_of hi0 hzz
 have hsrc:Src Tryz.prog i0.size 34 (.slice (some ⟨h,0,none⟩) 1 vc) 1 news w:=by
  rw [hzs]
  exact Src.ofSlice w t33 ⟨h,0,none⟩ 1 vc news (by omega) (fun j u hj=>by
   rw [Addr.add_lit,cell_of hh,Nat.zero_add,hnew j (by have:=(List.getElem?_eq_some_iff.1 hj).1;omega)];exact hj) h1n
 have hold:(Builtin.firstCells i0.size n (.slice (A.map fun g=>⟨g,0,none⟩) n c)).run Tryz.prog w.drew=.ok olds.toArray w.drew:=by
  rw [hzs]
  cases A with
  | none =>
   obtain ⟨rfl,rfl⟩:=hA0 rfl
   rw [List.length_eq_zero_iff.1 hol]
   exact run_firstCells_none w.drew 1 0 0 0
  | some g =>
   obtain ⟨cur,hg,ho⟩:=hA g rfl
   exact run_firstCells_some w.drew 1 n ⟨g,0,none⟩ n c olds hol (fun j v hj=>by
    rw [Addr.add_lit,Nat.zero_add]
    refine (cell_of (w:=w.drew) hg j).trans ?_
    rw [ho j (by have:=(List.getElem?_eq_some_iff.1 hj).1;omega)];exact hj)
 have hrun:=fun ty=>run_append_grow_src w 34 34 ty 3 i0 _ t33 hi0 hzz (A.map fun g=>⟨g,0,none⟩) n c olds hold _ 1 news hsrc hc (by omega) (by rw [hzb];exact growslice_fits hc (by omega))
 obtain ⟨G,hG⟩:∃ G,G=grownCap w (n+1) c 3:=⟨_,rfl⟩
 have hGn:n+1<=G:=by rw [hG];exact grownCap_ge w _ _ _
 have hGm:G<=maxLen:=by rw [hG];exact grownCap_le_maxLen w (n+1) c 3 (by unfold maxLen;omega)
 rw [<- hG] at hrun
 obtain ⟨ROW,hROW⟩:∃ ROW:Array Value,ROW=(olds++news).toArray++Builtin.zeroCells (Value.int .i64 0).cells (G-(n+1)):=⟨_,rfl⟩
 rw [<- hROW] at hrun
 obtain ⟨W1,hW1⟩:∃ W1,W1=w.drew.alloc (.cells ROW 3):=⟨_,rfl⟩
 rw [<- hW1] at hrun
 have fin:Hid (∃ (g' c':Nat) (cur':Array Value),Ending.returned (.slice (some ⟨w.heap.size,0,none⟩) (n+1) G)=.returned (.slice (some ⟨g',0,none⟩) (n+1) c')/\W1.heap[g']?=some (.cells cur' 3 (0,0))/\cur'.size=c'*1/\n+1<=c'/\c'<=maxLen /\
  (∀ q,q<(n+1)*1->cur'[q]?=(olds.take (n*1)++news++olds.drop (n*1))[q]?)/\(A=some g'∨w.heap.size<=g')/\(∀ b,b<w.heap.size->A≠some b->W1.heap[b]?=w.heap[b]?)/\W1.os=w.os/\W1.tape=w.tape/\W1.output=w.output/\w.heap.size<=W1.heap.size):=by
  refine ⟨w.heap.size,G,ROW,rfl,by rw [hW1];exact heap_alloc_new _ _,?_,hGn,hGm,fun q hq=>?_,.inr (Nat.le_refl _),fun b hb _=>by rw [hW1];exact Below.heap_alloc _ _ _ hb,by rw [hW1]<;>rfl,by rw [hW1]<;>rfl,by rw [hW1]<;>rfl,by rw [hW1];simp [World.alloc]⟩
  ·rw [hROW,Array.size_append,zc_size]
   simp only [List.size_toArray,List.length_append,hol,hnl]
   show n*1+1+(G-(n+1))*1=G*1
   omega
  ·rw [List.take_of_length_le (by omega),List.drop_eq_nil_of_le (by omega),List.append_nil,hROW,Array.getElem?_append_left (by simp [hol,hnl];omega)]
   simp
 clear hW1 hROW hG hold hsrc hh hnew hA
 refine Calls.mono (R:=fun ed w'=>ed=.returned (.slice (some ⟨w.heap.size,0,none⟩) (n+1) G)/\w'=W1) ?_ (fun ed w' ⟨h1,h2⟩=>by subst h1 h2;exact fin.out)
 clear fin
 go_enter Tryz.func204,Tryz.ntmps204
 cases A with
 | none =>
  obtain ⟨rfl,rfl⟩:=hA0 rfl
  go_wp2_with (at_builtin;refine Lib.wpList_append_run _ rfl _ _ _ _ rfl _ _ rfl rfl _ _ (hrun _) ?_)
  go_ret
  exact ⟨rfl,rfl⟩
 | some g =>
  go_wp2_with (at_builtin;refine Lib.wpList_append_run _ rfl _ _ _ _ rfl _ _ rfl rfl _ _ (hrun _) ?_)
  all_goals (go_ret;exact ⟨rfl,rfl⟩)
set_option maxHeartbeats 4000000 in
theorem insI_shift (w:World) (g n c i h vc:Nat) (olds news:List Value) (hi:i<n) (hn:n<=1000) (hc:n+1<=c) (hcm:c<=maxLen) (hol:olds.length=n*1) (hnl:news.length=1) (h1o:∀ v∈olds,v.oneCell'=true) (h1n:∀ v∈news,v.oneCell'=true) (hgh:g≠h)
  (cur:Array Value) (hg:w.heap[g]?=some (.cells cur 3 (0,0))) (hcur:cur.size=c*1) (hold:∀ q,q<n*1->cur[q]?=olds[q]?) (hcu:Array Value) (hh:w.heap[h]?=some (.cells hcu 3 (0,0))) (hnew:∀ q,q<1->hcu[q]?=news[q]?) :
  Calls Tryz.prog 204 #[.slice (some ⟨g,0,none⟩) n c,.int .i64 i,.slice (some ⟨h,0,none⟩) 1 vc] w fun ed w'=>∃ (g' c':Nat) (cur':Array Value),ed=.returned (.slice (some ⟨g',0,none⟩) (n+1) c')/\w'.heap[g']?=some (.cells cur' 3 (0,0))/\cur'.size=c'*1/\n+1<=c'/\c'<=maxLen /\
  (∀ q,q<(n+1)*1->cur'[q]?=(olds.take (i*1)++news++olds.drop (i*1))[q]?)/\((some g)=some g'∨w.heap.size<=g')/\(∀ b,b<w.heap.size->(some g)≠some b->w'.heap[b]?=w.heap[b]?)/\w'.os=w.os/\w'.tape=w.tape/\w'.output=w.output/\w.heap.size<=w'.heap.size:=by
 have mixed:Tryz.prog.follows .mixedOrders=true:=rfl
 obtain ⟨i0,hi0,hzs,hzb,hzz⟩:=int_info
 have t33:Tryz.prog.underlying 34=some (.slice 3):=rfl
 have t3:Tryz.prog.underlying 3=some (.int .i64):=rfl
 have t4:Tryz.prog.underlying 4=some .bool:=rfl
 have u33:=run_underlying t33
 have u3:=run_underlying t3
 have u4:=run_underlying t4
 have a33:=isAgg_of t33
 have a3:=isAgg_of t3
 have a4:=isAgg_of t4
 simp only [TypeDesc.isRow] at a33 a3 a4
 have z75:∀ w,(Go.sizeOf 3).run Tryz.prog w=.ok 1 w:=fun w=>by rw [sizeOf_of hi0,hzs]
 obtain ⟨i33,e33,s33,y33⟩:∃ i:TypeInfo,Tryz.prog.info? 34=some i/\i.size=1/\i.zero=some (.slice none 0 0):=⟨_,rfl,rfl,rfl⟩
 obtain ⟨i3,e3,q3,y3⟩:∃ i:TypeInfo,Tryz.prog.info? 3=some i/\i.size=1/\i.zero=some (.int .i64 0):=⟨_,rfl,rfl,rfl⟩
 obtain ⟨i4,e4,q4,y4⟩:∃ i:TypeInfo,Tryz.prog.info? 4=some i/\i.size=1/\i.zero=some (.bool false):=⟨_,rfl,rfl,rfl⟩
 have z33:∀ w,(Go.sizeOf 34).run Tryz.prog w=.ok 1 w:=fun w=>by rw [sizeOf_of e33,s33]
 have z3:∀ w,(Go.sizeOf 3).run Tryz.prog w=.ok 1 w:=fun w=>by rw [sizeOf_of e3,q3]
 have z4:∀ w,(Go.sizeOf 4).run Tryz.prog w=.ok 1 w:=fun w=>by rw [sizeOf_of e4,q4]
 have v33:=zero_of e33 y33
 have v3:=zero_of e3 y3
 have v4:=zero_of e4 y4
 have v75:=zero_of hi0 hzz
 have hm:c<=9223372036854775807:=by unfold maxLen at hcm;omega
 have hz2:¬ ((i:Int)=(n:Int)):=by omega
 have hov:∀ lb cb,(callFunc 218 #[.slice (some ⟨h,0,none⟩) 1 vc,.slice (some ⟨g,(i+1)*1,none⟩) lb cb]).run Tryz.prog w=.ok (.value (.bool false)) w:=fun lb cb=>by
  rw [run_callFunc_extern Tryz.func218 (by kernel_rfl) (by kernel_rfl) (by kernel_rfl) (e:=Extern.SlicesOverlaps.overlaps #[34,34] #[4]) (by kernel_rfl),
   Lib.run_overlaps_apart w 34 4 3 t33 1 z75 ⟨h,0,none⟩ ⟨g,(i+1)*1,none⟩ 1 vc lb cb (fun e=>hgh e.symm) 3 3 _ _ (shape_of hh) (shape_of hg) (by omega) (frozen_of hh _) (frozen_of hh _)]
  rfl
 obtain ⟨mv,hmv⟩:∃ mv,mv=olds.drop (i*1):=⟨_,rfl⟩
 have hml:mv.length=(n-i)*1:=by rw [hmv,List.length_drop,hol];omega
 have h1m:∀ v∈mv,v.oneCell'=true:=fun v hv=>h1o v (by rw [hmv] at hv;exact List.mem_of_mem_drop hv)
 have hmat:∀ j v,mv[j]?=some v->cur[i*1+j]?=some v:=fun j v hj=>by
  have hlt:=(List.getElem?_eq_some_iff.1 hj).1
  rw [hmv,List.getElem?_drop] at hj
  rw [hold _ (by omega)];exact hj
 have hmin1:Nat.min (n-i) (n+1-i)=n-i:=by simp only [Nat.min_def];split<;>omega
 have hcp1:∀ ty dc sc,(Builtin.copy_ #[34,34] ty #[.slice (some ⟨g,(i+1)*1,none⟩) (n-i) dc,.slice (some ⟨g,i*1,none⟩) (n+1-i) sc]).run Tryz.prog w.drew=.ok (goInt (Nat.min (n+1-i) (n-i))) (w.drew.setCells g ((i+1)*1) mv):=fun ty dc sc =>
  run_copy_any w.drew _ _ ty 3 g ((i+1)*1) (n-i) dc ⟨g,i*1,none⟩ (n+1-i) sc mv i0 t33 hi0 (by rw [show (n+1-i).min (n-i)=n-i by simp only [Nat.min_def];split<;>omega,hzs,hml])
   (fun j v hj=>by rw [Addr.add_lit];exact (cell_of (w:=w.drew) hg _).trans (hmat j v hj))
   (fun j hj=>by rw [cell_of (w:=w.drew) hg,Array.getElem?_eq_getElem (by omega)]<;>rfl) (fun j hj=>frozen_of (w:=w.drew) hg _) h1m
 obtain ⟨W1,hW1⟩:∃ W1,W1=w.drew.setCells g ((i+1)*1) mv:=⟨_,rfl⟩
 obtain ⟨cur1,c1,c2,c3,c4⟩:=setCells_heap g mv ((i+1)*1) w.drew (cur:=cur) (e:=3) (fr:=(0,0)) hg
 have o1:Oth w W1 g:=by rw [hW1];exact (Oth.drew w g).trans (oth_setCells g _ _ _)
 rw [<- hW1] at c1 hcp1
 have hhl:h<w.heap.size:=(Array.getElem?_eq_some_iff.1 hh).1
 have hh1:W1.heap[h]?=some (.cells hcu 3 (0,0)):=(o1.block h hhl (fun e=>hgh e.symm)).trans hh
 have hmin2:Nat.min 1 (n+1-i)=1:=by simp only [Nat.min_def];split<;>omega
 have hcp2:∀ (W:World),W.heap=W1.heap->∀ ty dc,(Builtin.copy_ #[34,34] ty #[.slice (some ⟨g,i*1,none⟩) (n+1-i) dc,.slice (some ⟨h,0,none⟩) 1 vc]).run Tryz.prog W=.ok (goInt (Nat.min 1 (n+1-i))) (W.setCells g (i*1) news):=fun W hWh ty dc =>
  run_copy_any W _ _ ty 3 g (i*1) (n+1-i) dc ⟨h,0,none⟩ 1 vc news i0 t33 hi0 (by rw [hmin2,hzs,hnl])
   (fun j v hj=>by
    rw [Addr.add_lit,Nat.zero_add,cell_of (w:=W) (by rw [hWh];exact hh1),hnew j (by have:=(List.getElem?_eq_some_iff.1 hj).1;omega)];exact hj)
   (fun j hj=>by rw [cell_of (w:=W) (by rw [hWh];exact c1),Array.getElem?_eq_getElem (by omega)];rfl) (fun j hj=>frozen_of (w:=W) (by rw [hWh];exact c1) _) h1n
 have fin:Hid (∀ W:World,W.heap=W1.heap->W.os=W1.os->W.tape=W1.tape->W.output=W1.output->∃ (g' c':Nat) (cur':Array Value),Ending.returned (.slice (some ⟨g,0,none⟩) (n+1) c)=.returned (.slice (some ⟨g',0,none⟩) (n+1) c')/\(W.setCells g (i*1) news).heap[g']?=some (.cells cur' 3 (0,0))/\cur'.size=c'*1/\n+1<=c'/\c'<=maxLen /\
  (∀ q,q<(n+1)*1->cur'[q]?=(olds.take (i*1)++news++olds.drop (i*1))[q]?)/\(some g=some g'∨w.heap.size<=g')/\(∀ b,b<w.heap.size->some g≠some b->(W.setCells g (i*1) news).heap[b]?=w.heap[b]?)/\(W.setCells g (i*1) news).os=w.os/\(W.setCells g (i*1) news).tape=w.tape/\(W.setCells g (i*1) news).output=w.output/\w.heap.size<=(W.setCells g (i*1) news).heap.size):=by
  intro W e1 e2 e3 e4
  obtain ⟨cur2,d1,d2,d3,d4⟩:=setCells_heap g news (i*1) W (cur:=cur1) (e:=3) (fr:=(0,0)) (by rw [e1];exact c1)
  have o2:Oth W1 W g:=⟨e2,e3,e4,by rw [e1];exact Nat.le_refl _,fun b _ _=>by rw [e1]⟩
  have o3:=o1.trans (o2.trans (oth_setCells g news (i*1) W))
  refine ⟨g,c,cur2,rfl,d1,by rw [d2,c2,hcur],hc,hcm,fun q hq=>?_,.inl rfl,fun b hb hne=>o3.block b hb (fun e=>hne (by rw [e])),o3.os,o3.tape,o3.output,o3.size⟩
  have ht:(olds.take (i*1)).length=i*1:=by rw [List.length_take,hol];omega
  have htn:(olds.take (i*1)++news).length=i*1+1:=by rw [List.length_append,ht,hnl]
  by_cases h1:q<i*1
  ·rw [List.getElem?_append_left (by omega),List.getElem?_append_left (by omega),List.getElem?_take,if_pos h1,d3 q (by omega),c3 q (by omega),hold q (by omega)]
  ·by_cases h2:q<i*1+1
   ·obtain ⟨t,rfl⟩:∃ t,q=i*1+t:=⟨q-i*1,by omega⟩
    have htl:t<news.length:=by omega
    rw [List.getElem?_append_left (by omega),List.getElem?_append_right (by omega),ht,Nat.add_sub_cancel_left,d4 t _ (List.getElem?_eq_getElem htl) (by omega),List.getElem?_eq_getElem htl]
   ·obtain ⟨t,rfl⟩:∃ t,q=i*1+1+t:=⟨q-(i*1+1),by omega⟩
    have htl:t<mv.length:=by omega
    have e5:=c4 t _ (List.getElem?_eq_getElem htl) (by omega)
    rw [show (i+1)*1+t=i*1+1+t by omega] at e5
    rw [List.getElem?_append_right (by omega),htn,Nat.add_sub_cancel_left,d3 _ (by omega),e5,<- hmv,List.getElem?_eq_getElem htl]
 have hw1:IntKind.i64.wrap ((i:Int)+1)=(i:Int)+1:=by rw [IntKind.wrap_i64];omega
 have hw2:IntKind.i64.wrap ((n:Int)+1)=(n:Int)+1:=by rw [IntKind.wrap_i64];omega
 have hb1:(0:Int)<=(i:Int)+1:=by omega
 have hb0:(0:Int)<=(n:Int)+1:=by omega
 have hin:i<=n:=by omega
 have htn:((i:Int)+1).toNat=i+1:=by omega
 have htn2:((n:Int)+1).toNat=n+1:=by omega
 have hb2:¬ (c=i+1):=by omega
 have hb3:(i:Int)<=(n:Int)+1:=by omega
 have hb4:¬ (c=i):=by omega
 simp only [Nat.mul_one] at hov hcp1 hcp2 fin
 refine Calls.mono (R:=fun ed w'=>ed=.returned (.slice (some ⟨g,0,none⟩) (n+1) c)/\∃ W:World,w'=W.setCells g i news/\W.heap=W1.heap/\W.os=W1.os/\W.tape=W1.tape/\W.output=W1.output) ?_ (fun ed w' ⟨h1,W,h2,h3,h4,h5,h6⟩=>by subst h1 h2;simpa only [Nat.mul_one] using fin.out W h3 h4 h5 h6)
 clear fin hW1 c1 c2 c3 c4 o1 hg hh hh1 hold hnew hmat hml hmv hmin1
 go_enter Tryz.func204,Tryz.ntmps204
 go_wp2_with (simp only [hov])
 go_region_law_o (refine step_copy_runI rfl _ _ 34 34 rfl (.slice (some ⟨g,i+1,none⟩) (n-i) (c-(i+1))) (.slice (some ⟨g,i,none⟩) (n+1-i) (c-i)) (by simp [Act.eval,Act.put]) (by simp [Act.eval,Act.put]) (hcp1 3 (c-(i+1)) (c-i)) ?_)
 go_wp2_with (at_builtin;refine wpList_copy_runI _ rfl _ _ 34 34 rfl _ _ rfl rfl (hcp2 _ rfl _ _) ?_)
 go_ret
 exact ⟨rfl,_,rfl,rfl,rfl,rfl,rfl⟩
set_option maxHeartbeats 4000000 in
theorem insI_grow (w:World) (g n c i h vc:Nat) (olds news:List Value) (hi:i<n) (hn:n<=1000) (hnc:n<=c) (hroom:c<n+1) (hol:olds.length=n*1) (hnl:news.length=1) (h1o:∀ v∈olds,v.oneCell'=true) (h1n:∀ v∈news,v.oneCell'=true)
  (cur:Array Value) (hg:w.heap[g]?=some (.cells cur 3 (0,0))) (hold0:∀ q,q<n*1->cur[q]?=olds[q]?) (hcu:Array Value) (hh:w.heap[h]?=some (.cells hcu 3 (0,0))) (hnew:∀ q,q<1->hcu[q]?=news[q]?) :
  Calls Tryz.prog 204 #[.slice (some ⟨g,0,none⟩) n c,.int .i64 i,.slice (some ⟨h,0,none⟩) 1 vc] w fun ed w'=>∃ (g' c':Nat) (cur':Array Value),ed=.returned (.slice (some ⟨g',0,none⟩) (n+1) c')/\w'.heap[g']?=some (.cells cur' 3 (0,0))/\cur'.size=c'*1/\n+1<=c'/\c'<=maxLen /\
  (∀ q,q<(n+1)*1->cur'[q]?=(olds.take (i*1)++news++olds.drop (i*1))[q]?)/\((some g)=some g'∨w.heap.size<=g')/\(∀ b,b<w.heap.size->(some g)≠some b->w'.heap[b]?=w.heap[b]?)/\w'.os=w.os/\w'.tape=w.tape/\w'.output=w.output/\w.heap.size<=w'.heap.size:=by
 have mixed:Tryz.prog.follows .mixedOrders=true:=rfl
 obtain ⟨i0,hi0,hzs,hzb,hzz⟩:=int_info
 have t33:Tryz.prog.underlying 34=some (.slice 3):=rfl
 have t3:Tryz.prog.underlying 3=some (.int .i64):=rfl
 have t4:Tryz.prog.underlying 4=some .bool:=rfl
 have u33:=run_underlying t33
 have u3:=run_underlying t3
 have u4:=run_underlying t4
 have a33:=isAgg_of t33
 have a3:=isAgg_of t3
 have a4:=isAgg_of t4
 simp only [TypeDesc.isRow] at a33 a3 a4
 have z75:∀ w,(Go.sizeOf 3).run Tryz.prog w=.ok 1 w:=fun w=>by rw [sizeOf_of hi0,hzs]
 obtain ⟨i33,e33,s33,y33⟩:∃ i:TypeInfo,Tryz.prog.info? 34=some i/\i.size=1/\i.zero=some (.slice none 0 0):=⟨_,rfl,rfl,rfl⟩
 obtain ⟨i3,e3,q3,y3⟩:∃ i:TypeInfo,Tryz.prog.info? 3=some i/\i.size=1/\i.zero=some (.int .i64 0):=⟨_,rfl,rfl,rfl⟩
 obtain ⟨i4,e4,q4,y4⟩:∃ i:TypeInfo,Tryz.prog.info? 4=some i/\i.size=1/\i.zero=some (.bool false):=⟨_,rfl,rfl,rfl⟩
 have z33:∀ w,(Go.sizeOf 34).run Tryz.prog w=.ok 1 w:=fun w=>by rw [sizeOf_of e33,s33]
 have z3:∀ w,(Go.sizeOf 3).run Tryz.prog w=.ok 1 w:=fun w=>by rw [sizeOf_of e3,q3]
 have z4:∀ w,(Go.sizeOf 4).run Tryz.prog w=.ok 1 w:=fun w=>by rw [sizeOf_of e4,q4]
 have v33:=zero_of e33 y33
 have v3:=zero_of e3 y3
 have v4:=zero_of e4 y4
 have v75:=zero_of hi0 hzz
 have hz2:¬ ((i:Int)=(n:Int)):=by omega
 have hz3:(c:Int)<(n:Int)+1:=by omega
 have hgl:g<w.heap.size:=(Array.getElem?_eq_some_iff.1 hg).1
 have hhl:h<w.heap.size:=(Array.getElem?_eq_some_iff.1 hh).1
 have hkk:(n:Int)+1-(i:Int)=((n+1-i:Nat):Int):=by omega
 have hik:i+(n+1-i)=n+1:=by omega
 have htk:(olds.take (i*1)).length=i*1:=by rw [List.length_take,hol];omega
 have hold:(Builtin.firstCells i0.size i (.slice (some ⟨g,0,none⟩) i c)).run Tryz.prog w.drew=.ok (olds.take (i*1)).toArray w.drew:=by
  rw [hzs]
  exact run_firstCells_some w.drew 1 i ⟨g,0,none⟩ i c (olds.take (i*1)) htk (fun j v hj=>by
   rw [Addr.add_lit,Nat.zero_add]
   have hjl:=(List.getElem?_eq_some_iff.1 hj).1
   refine (cell_of (w:=w.drew) hg j).trans ?_
   rw [hold0 j (by omega)]
   rw [List.getElem?_take] at hj
   split at hj
   ·exact hj
   ·cases hj)
 have hrz:∀ ty,(Builtin.append_ #[34,3] ty #[.slice (some ⟨g,0,none⟩) i c,.int .i64 ((n:Int)+1-(i:Int))]).run Tryz.prog w =
   .ok (.slice (some ⟨w.heap.size,0,none⟩) (n+1) (grownCap w (n+1) c 3)) (w.drew.alloc (.cells ((olds.take (i*1)).toArray++Builtin.zeroCells (Value.int .i64 0).cells (n+1-i)++Builtin.zeroCells (Value.int .i64 0).cells (grownCap w (n+1) c 3-(n+1))) 3)):=fun ty=>by
  have h:=Lib.run_append_grow_zeros w 34 3 ty 3 i0 _ .i64 .i64 t33 t3 hi0 hzz (some ⟨g,0,none⟩) i c (olds.take (i*1)) hold (n+1-i) (by omega) (by omega) (by omega) (by omega) (by rw [hzb];omega) (by rw [hzb,hik];exact growslice_fits hroom (by omega))
  rw [hik] at h
  rw [hkk]
  exact h
 obtain ⟨G,hG⟩:∃ G,G=grownCap w (n+1) c 3:=⟨_,rfl⟩
 have hGn:n+1<=G:=by rw [hG];exact grownCap_ge w _ _ _
 have hGm:G<=maxLen:=by rw [hG];exact grownCap_le_maxLen w (n+1) c 3 (by unfold maxLen;omega)
 have hG63:G<=9223372036854775807:=by have:=hGm;unfold maxLen at this;omega
 rw [<- hG] at hrz
 obtain ⟨ROW,hROW⟩:∃ ROW:Array Value,ROW=(olds.take (i*1)).toArray++Builtin.zeroCells (Value.int .i64 0).cells (n+1-i)++Builtin.zeroCells (Value.int .i64 0).cells (G-(n+1)):=⟨_,rfl⟩
 rw [<- hROW] at hrz
 have hzc:(Value.int .i64 0).cells.size=1:=by kernel_rfl
 have hRs:ROW.size=G*1:=by
  rw [hROW,Array.size_append,Array.size_append,zc_size,zc_size,hzc]
  simp only [List.size_toArray,htk]
  omega
 have hR0:∀ q,q<i*1->ROW[q]?=olds[q]?:=fun q hq=>by
  rw [hROW,Array.getElem?_append_left (by rw [Array.size_append,List.size_toArray,htk];omega),Array.getElem?_append_left (by rw [List.size_toArray,htk];omega)]
  have hq':q<i:=by omega
  simp [List.getElem?_take,hq']
 obtain ⟨W1,hW1⟩:∃ W1,W1=w.drew.alloc (.cells ROW 3):=⟨_,rfl⟩
 have r1:W1.heap[w.heap.size]?=some (.cells ROW 3 (0,0)):=by rw [hW1];exact heap_alloc_new _ _
 have o1:∀ b,b<w.heap.size->W1.heap[b]?=w.heap[b]?:=fun b hb=>by rw [hW1];exact Below.heap_alloc _ _ _ hb
 have o1b:W1.os=w.os/\W1.tape=w.tape/\W1.output=w.output/\w.heap.size<=W1.heap.size:=by rw [hW1];exact ⟨rfl,rfl,rfl,by simp [World.alloc]⟩
 obtain ⟨B,hB⟩:∃ B,B=w.heap.size:=⟨_,rfl⟩
 rw [<- hB] at hrz r1 o1
 rw [<- hW1] at hrz
 have hmin2:Nat.min (n+1-i) 1=1:=by simp only [Nat.min_def];split<;>omega
 have hh1:W1.heap[h]?=some (.cells hcu 3 (0,0)):=(o1 h (by omega)).trans hh
 have hg1:W1.heap[g]?=some (.cells cur 3 (0,0)):=(o1 g (by omega)).trans hg
 have hcpA:∀ (W:World),W.heap=W1.heap->∀ ty dc,(Builtin.copy_ #[34,34] ty #[.slice (some ⟨B,i*1,none⟩) (n+1-i) dc,.slice (some ⟨h,0,none⟩) 1 vc]).run Tryz.prog W=.ok (goInt (Nat.min 1 (n+1-i))) (W.setCells B (i*1) news):=fun W hWh ty dc =>
  run_copy_any W _ _ ty 3 B (i*1) (n+1-i) dc ⟨h,0,none⟩ 1 vc news i0 t33 hi0 (by rw [show Nat.min 1 (n+1-i)=1 by simp only [Nat.min_def];split<;>omega,hzs,hnl])
   (fun j v hj=>by
    rw [Addr.add_lit,Nat.zero_add,cell_of (w:=W) (by rw [hWh];exact hh1),hnew j (by have:=(List.getElem?_eq_some_iff.1 hj).1;omega)];exact hj)
   (fun j hj=>by rw [cell_of (w:=W) (by rw [hWh];exact r1),Array.getElem?_eq_getElem (by omega)];rfl) (fun j hj=>frozen_of (w:=W) (by rw [hWh];exact r1) _) h1n
 obtain ⟨ROW2,d1,d2,d3,d4⟩:=setCells_heap B news (i*1) W1 (cur:=ROW) (e:=3) (fr:=(0,0)) r1
 have o2:=oth_setCells B news (i*1) W1
 obtain ⟨W2,hW2⟩:∃ W2,W2=W1.setCells B (i*1) news:=⟨_,rfl⟩
 rw [<- hW2] at d1 o2
 have hg2:W2.heap[g]?=some (.cells cur 3 (0,0)):=(o2.block g (by have:=o1b.2.2.2;omega) (by omega)).trans hg1
 obtain ⟨mv,hmv⟩:∃ mv,mv=olds.drop (i*1):=⟨_,rfl⟩
 have hml:mv.length=(n-i)*1:=by rw [hmv,List.length_drop,hol];omega
 have h1m:∀ v∈mv,v.oneCell'=true:=fun v hv=>h1o v (by rw [hmv] at hv;exact List.mem_of_mem_drop hv)
 have hcpB:∀ (W:World),W.heap=W2.heap->∀ ty dc sc,(Builtin.copy_ #[34,34] ty #[.slice (some ⟨B,(i+1)*1,none⟩) (n-i) dc,.slice (some ⟨g,i*1,none⟩) (n-i) sc]).run Tryz.prog W=.ok (goInt (Nat.min (n-i) (n-i))) (W.setCells B ((i+1)*1) mv):=fun W hWh ty dc sc =>
  run_copy_any W _ _ ty 3 B ((i+1)*1) (n-i) dc ⟨g,i*1,none⟩ (n-i) sc mv i0 t33 hi0 (by rw [show Nat.min (n-i) (n-i)=n-i by simp only [Nat.min_def];split<;>omega,hzs,hml])
   (fun j v hj=>by
    have hlt:=(List.getElem?_eq_some_iff.1 hj).1
    rw [Addr.add_lit]
    refine (cell_of (w:=W) (by rw [hWh];exact hg2) _).trans ?_
    rw [hmv,List.getElem?_drop] at hj
    rw [hold0 _ (by omega)];exact hj)
   (fun j hj=>by rw [cell_of (w:=W) (by rw [hWh];exact d1),Array.getElem?_eq_getElem (by omega)];rfl) (fun j hj=>frozen_of (w:=W) (by rw [hWh];exact d1) _) h1m
 have fin:Hid (∀ W:World,W.heap=W2.heap->W.os=W1.os->W.tape=W1.tape->W.output=W1.output->∃ (g' c':Nat) (cur':Array Value),Ending.returned (.slice (some ⟨B,0,none⟩) (n+1) G)=.returned (.slice (some ⟨g',0,none⟩) (n+1) c')/\(W.setCells B ((i+1)*1) mv).heap[g']?=some (.cells cur' 3 (0,0))/\cur'.size=c'*1/\n+1<=c'/\c'<=maxLen /\
  (∀ q,q<(n+1)*1->cur'[q]?=(olds.take (i*1)++news++olds.drop (i*1))[q]?)/\(some g=some g'∨w.heap.size<=g')/\(∀ b,b<w.heap.size->some g≠some b->(W.setCells B ((i+1)*1) mv).heap[b]?=w.heap[b]?)/\(W.setCells B ((i+1)*1) mv).os=w.os/\(W.setCells B ((i+1)*1) mv).tape=w.tape/\(W.setCells B ((i+1)*1) mv).output=w.output/\w.heap.size<=(W.setCells B ((i+1)*1) mv).heap.size):=by
  intro W e1 e2 e3 e4
  obtain ⟨cur2,q1,q2,q3,q4⟩:=setCells_heap B mv ((i+1)*1) W (cur:=ROW2) (e:=3) (fr:=(0,0)) (by rw [e1];exact d1)
  have o3:=oth_setCells B mv ((i+1)*1) W
  refine ⟨B,G,cur2,rfl,q1,by rw [q2,d2,hRs],hGn,hGm,fun q hq=>?_,.inr (by omega),fun b hb _=>?_,o3.os.trans (e2.trans o1b.1),o3.tape.trans (e3.trans o1b.2.1),o3.output.trans (e4.trans o1b.2.2.1),Nat.le_trans o1b.2.2.2 (Nat.le_trans o2.size (by rw [<- e1];exact o3.size))⟩
  ·have htn:(olds.take (i*1)++news).length=i*1+1:=by rw [List.length_append,htk,hnl]
   by_cases h1:q<i*1
   ·rw [List.getElem?_append_left (by omega),List.getElem?_append_left (by omega),List.getElem?_take,if_pos h1,q3 q (by omega),d3 q (by omega),hR0 q h1]
   ·by_cases h2:q<i*1+1
    ·obtain ⟨t,rfl⟩:∃ t,q=i*1+t:=⟨q-i*1,by omega⟩
     have htl:t<news.length:=by omega
     rw [List.getElem?_append_left (by omega),List.getElem?_append_right (by omega),htk,Nat.add_sub_cancel_left,q3 _ (by omega),d4 t _ (List.getElem?_eq_getElem htl) (by omega),List.getElem?_eq_getElem htl]
    ·obtain ⟨t,rfl⟩:∃ t,q=i*1+1+t:=⟨q-(i*1+1),by omega⟩
     have htl:t<mv.length:=by omega
     have e5:=q4 t _ (List.getElem?_eq_getElem htl) (by omega)
     rw [show (i+1)*1+t=i*1+1+t by omega] at e5
     rw [List.getElem?_append_right (by omega),htn,Nat.add_sub_cancel_left,e5,<- hmv,List.getElem?_eq_getElem htl]
  ·have hb1:b<W1.heap.size:=by have:=o1b.2.2.2;omega
   rw [o3.block b (by rw [e1];exact Nat.lt_of_lt_of_le hb1 o2.size) (by omega),e1,o2.block b hb1 (by omega),o1 b (by omega)]
 have hw1:IntKind.i64.wrap ((i:Int)+1)=(i:Int)+1:=by rw [IntKind.wrap_i64];omega
 have hw2:IntKind.i64.wrap ((n:Int)+1)=(n:Int)+1:=by rw [IntKind.wrap_i64];omega
 have hw3:IntKind.i64.wrap ((n:Int)+1-(i:Int))=(n:Int)+1-(i:Int):=by rw [IntKind.wrap_i64];omega
 have hb1:(0:Int)<=(i:Int)+1:=by omega
 have hb0:(0:Int)<=(n:Int)+1:=by omega
 have hin:i<=n:=by omega
 have htn:((i:Int)+1).toNat=i+1:=by omega
 have htn2:((n:Int)+1).toNat=n+1:=by omega
 have hb2:¬ (G=i+1):=by omega
 have hb5:¬ (G=i):=by omega
 have hb3:(i:Int)<=(n:Int)+1:=by omega
 have hb4:¬ (c=i):=by omega
 simp only [Nat.mul_one] at hrz hcpA hcpB fin hW2
 refine Calls.mono (R:=fun ed w'=>ed=.returned (.slice (some ⟨B,0,none⟩) (n+1) G)/\∃ W:World,w'=W.setCells B (i+1) mv/\W.heap=W2.heap/\W.os=W1.os/\W.tape=W1.tape/\W.output=W1.output) ?_ (fun ed w' ⟨h1,W,h2,h3,h4,h5,h6⟩=>by subst h1 h2;simpa only [Nat.mul_one] using fin.out W h3 h4 h5 h6)
 have hcpB':∀ (W:World),W.heap=W1.heap->∀ ty dc sc,(Builtin.copy_ #[34,34] ty #[.slice (some ⟨B,i+1,none⟩) (n-i) dc,.slice (some ⟨g,i,none⟩) (n-i) sc]).run Tryz.prog (W.setCells B i news).drew=.ok (goInt (Nat.min (n-i) (n-i))) (((W.setCells B i news).drew).setCells B (i+1) mv):=fun W hW ty dc sc=>hcpB _ (by rw [hW2];exact setCells_heap_eq hW B i news) ty dc sc
 have hfin:∀ W:World,W.heap=W1.heap->W.os=W1.os->W.tape=W1.tape->W.output=W1.output->((W.setCells B i news).drew).heap=W2.heap/\((W.setCells B i news).drew).os=W1.os/\((W.setCells B i news).drew).tape=W1.tape/\((W.setCells B i news).drew).output=W1.output:=fun W e1 e2 e3 e4=>by
  have o:=oth_setCells B news i W
  exact ⟨by rw [hW2];exact setCells_heap_eq e1 B i news,o.os.trans e2,o.tape.trans e3,o.output.trans e4⟩
 clear fin hW1 hW2 hB r1 d1 d2 d3 d4 o1 o1b o2 hg hh hh1 hg1 hg2 hold hold0 hnew hml hmv hR0 hRs hROW hG hcpB hkk hik htk
 go_enter Tryz.func204,Tryz.ntmps204
 go_wp2_with (first
  | (at_builtin;refine Lib.wpList_append_run _ rfl _ _ _ _ rfl _ _ rfl rfl _ _ (hrz _) ?_)
  | (at_builtin;refine wpList_copy_runI _ rfl _ _ 34 34 rfl _ _ rfl rfl (hcpA _ rfl _ _) ?_))
 go_region_law_o (refine step_copy_runI rfl _ _ 34 34 rfl (.slice (some ⟨B,i+1,none⟩) (n-i) (G-(i+1))) (.slice (some ⟨g,i,none⟩) (n-i) (c-i)) (by simp [Act.eval,Act.put]) (by simp [Act.eval,Act.put]) (hcpB' _ rfl 3 (G-(i+1)) (c-i)) ?_)
 go_wp2
 go_ret
 exact ⟨rfl,_,rfl,hfin _ rfl rfl rfl rfl⟩
theorem ins_int:InsCall Tryz.prog 204 3 1:=by
 intro w A n c i h vc olds news hi hnc hcm hn hol hnl h1o h1n hA0 hA ⟨hcu,hh,hnew⟩
 by_cases hin:i=n
 ·subst hin
  by_cases hroom:i+1<=c
  ·cases A with
   | none=>have:=hA0 rfl;omega
   | some g =>
    obtain ⟨hgh,cur,hg,hcur,hold⟩:=hA g rfl
    exact insI_end_room w g i c h vc olds news hroom hcm hol hnl h1n cur hg hcur hold hcu hh hnew
  ·exact insI_end_grow w A i c h vc olds news hn hnc (by omega) hol hnl h1n hA0 (fun g hg=>by obtain ⟨_,cur,h1,_,h2⟩:=hA g hg;exact ⟨cur,h1,h2⟩) hcu hh hnew
 ·have hlt:i<n:=by omega
  cases A with
  | none=>have:=hA0 rfl;omega
  | some g =>
   obtain ⟨hgh,cur,hg,hcur,hold⟩:=hA g rfl
   by_cases hroom:n+1<=c
   ·exact insI_shift w g n c i h vc olds news hlt hn hroom hcm hol hnl h1o h1n hgh cur hg hcur hold hcu hh hnew
   ·exact insI_grow w g n c i h vc olds news hlt hn hnc (by omega) hol hnl h1o h1n cur hg hold hcu hh hnew
theorem entI (args:Array Value) (w:World):(callFunc 204 args).run Tryz.prog w=.ok (.enter 204 args) w:=ent_of Tryz.func204 rfl rfl args w
theorem insI_ok (s:List Int) (i:Nat) (x:Int) (hi:i<=s.length/\s.length<=1000):FunOK Tryz.prog 204 3 [] [(0,k1 (oI s)),(1,kI i),(2,k1 (.ow tI (raw [eI x])))] (·=[(3,k1 (oI (s.insertIdx i x)))]):=by
 have h:=ins_fun ins_int (by kernel_rfl) (by decide) entI (typ 0 eI s) i (eI x) hi.1 hi.2
 rw [typ_ins _ _ _ _ _ hi.1] at h
 exact h
def insI_c:Con Tryz.prog:=⟨204,3,[.give,.lend,.give],[],List Int×Nat×Int,some fun b=>b.2.1<=b.1.length/\b.1.length<=1000,fun b=>[(0,k1 (oI b.1)),(1,kI b.2.1),(2,k1 (.ow tI (raw [eI b.2.2])))],fun b=>[(3,k1 (oI (b.1.insertIdx b.2.1 b.2.2)))],[],fun b h=>insI_ok b.1 b.2.1 b.2.2 h⟩
end Go.Proofs.AI
namespace Go.Proofs.AI
open Go.RowKit Go.Proofs Go.Lib Go.Shelf
set_option linter.unusedVariables false
set_option linter.unusedSimpArgs false
set_option maxRecDepth 100000
theorem info_F:∃ (i:TypeInfo) (z:Value),Tryz.prog.info? 36=some i/\i.size=11/\0<i.bytes/\i.zero=some z/\(∀ v∈z.cells,v.oneCell'=true)/\z.cells.size=11:=⟨_,_,rfl,rfl,by decide,rfl,by decide,rfl⟩
set_option maxHeartbeats 4000000 in
theorem del_F:DelCall Tryz.prog 161 36 11:=by
 intro w g n cap i j cur hg hcur hn hcap hij hj hone
 have mixed:Tryz.prog.follows .mixedOrders=true:=rfl
 obtain ⟨i0,zz,hi0,hzs,hzb,hzz,hz1c,hzc⟩:=info_F
 have t33:Tryz.prog.underlying 26=some (.slice 36):=rfl
 have t3:Tryz.prog.underlying 3=some (.int .i64):=rfl
 have t4:Tryz.prog.underlying 4=some .bool:=rfl
 have a33:=isAgg_of t33
 have a3:=isAgg_of t3
 have a4:=isAgg_of t4
 simp only [TypeDesc.isRow] at a33 a3 a4
 have z75:∀ w,(Go.sizeOf 36).run Tryz.prog w=.ok 11 w:=fun w=>by rw [sizeOf_of hi0,hzs]
 obtain ⟨i33,e33,s33,y33⟩:∃ i:TypeInfo,Tryz.prog.info? 26=some i/\i.size=1/\i.zero=some (.slice none 0 0):=⟨_,rfl,rfl,rfl⟩
 obtain ⟨i3,e3,q3,y3⟩:∃ i:TypeInfo,Tryz.prog.info? 3=some i/\i.size=1/\i.zero=some (.int .i64 0):=⟨_,rfl,rfl,rfl⟩
 obtain ⟨i4,e4,q4,y4⟩:∃ i:TypeInfo,Tryz.prog.info? 4=some i/\i.size=1/\i.zero=some (.bool false):=⟨_,rfl,rfl,rfl⟩
 have z33:∀ w,(Go.sizeOf 26).run Tryz.prog w=.ok 1 w:=fun w=>by rw [sizeOf_of e33,s33]
 have z3:∀ w,(Go.sizeOf 3).run Tryz.prog w=.ok 1 w:=fun w=>by rw [sizeOf_of e3,q3]
 have z4:∀ w,(Go.sizeOf 4).run Tryz.prog w=.ok 1 w:=fun w=>by rw [sizeOf_of e4,q4]
 have v33:=zero_of e33 y33
 have v3:=zero_of e3 y3
 have v4:=zero_of e4 y4
 have v75:=zero_of hi0 hzz
 have hm:cap<=9223372036854775807:=by unfold maxLen at hcap;omega
 obtain ⟨news,hnl,hnews⟩:∃ news:List Value,news.length=(n-j)*11/\∀ t,t<(n-j)*11->news[t]?=cur[j*11+t]?:=by
  refine ⟨(List.range ((n-j)*11)).map fun t=>cur.getD (j*11+t) undef,by simp,fun t ht=>?_⟩
  rw [List.getElem?_map,List.getElem?_range ht]
  simp [Array.getD_eq_getD_getElem?,show j*11+t<cur.size by omega]
 obtain ⟨A,hA,hsrc⟩:∃ A:Addr,(if cap=j then some (⟨g,0,none⟩:Addr) else some ⟨g,j*11,none⟩)=some A/\Hid (∀ t u,news[t]?=some u->w.drew.cell? (A.add t)=some u):=by
  by_cases h:cap=j
  ·refine ⟨⟨g,0,none⟩,by simp [h],fun t u hu=>?_⟩
   have ht:=(List.getElem?_eq_some_iff.1 hu).1
   rw [hnl] at ht
   omega
  ·refine ⟨⟨g,j*11,none⟩,by simp [h],fun t u hu=>?_⟩
   have ht:=(List.getElem?_eq_some_iff.1 hu).1
   rw [hnl] at ht
   rw [hnews t ht] at hu
   rw [Addr.add_lit]
   exact (cell_of (w:=w) hg _).trans hu
 have s1:Hid (news.length=(n-j)*11):=hnl
 have s2:Hid (∀ u∈news,u.oneCell'=true):=by
  intro u hu
  obtain ⟨t,ht⟩:=List.getElem?_of_mem hu
  have hlt:=(List.getElem?_eq_some_iff.1 ht).1
  rw [hnl] at hlt
  rw [hnews t hlt] at ht
  exact hone _ u (by omega) ht
 have s3:Hid (∀ t,t<news.length->(w.drew.cell? ⟨g,0+i*11+t,none⟩).isSome=true/\w.drew.frozen? ⟨g,0+i*11+t,none⟩=false):=by
  intro t ht
  rw [hnl] at ht
  refine ⟨?_,frozen_of (w:=w.drew) hg _⟩
  rw [cell_of (w:=w.drew) hg,Array.getElem?_eq_getElem (by omega)]<;>rfl
 obtain ⟨W1,hW1⟩:∃ W1,W1=w.drew.setCells g (0+i*11) news:=⟨_,rfl⟩
 obtain ⟨cur1,c1,c2,c3,c4⟩:=setCells_heap g news (0+i*11) w.drew (cur:=cur) (e:=36) (fr:=(0,0)) hg
 have o1:Oth w W1 g:=by rw [hW1];exact (Oth.drew w g).trans (oth_setCells g _ _ _)
 rw [<- hW1] at c1
 have hclr:∃ zs:List Value,(Builtin.clear_ #[26] 0 #[.slice (some ⟨g,(i+(n-j))*11,none⟩) (n-(i+(n-j))) (cap-(i+(n-j)))]).run Tryz.prog W1=.ok (.tuple #[]) (W1.setCells g ((i+(n-j))*11) zs)/\zs.length=(n-(i+(n-j)))*11 :=
  hzc▸run_clear_any W1 26 36 0 _ t33 v75 hz1c g ((i+(n-j))*11) (n-(i+(n-j))) (cap-(i+(n-j))) (by omega) (fun t ht=>by
   have ht:t<(n-(i+(n-j)))*11:=by rw [hzc] at ht;exact ht
   rw [cell_of c1,Array.getElem?_eq_getElem (by omega)]<;>rfl) (fun t ht=>frozen_of c1 _)
 obtain ⟨zs,hz1,hzl⟩:=hclr
 have hcl:∀ ty,(Builtin.clear_ #[26] ty #[.slice (some ⟨g,(i+(n-j))*11,none⟩) (n-(i+(n-j))) (cap-(i+(n-j)))]).run Tryz.prog W1=.ok (.tuple #[]) (W1.setCells g ((i+(n-j))*11) zs):=fun ty=>hz1
 obtain ⟨W2,hW2⟩:∃ W2,W2=W1.setCells g ((i+(n-j))*11) zs:=⟨_,rfl⟩
 rw [<- hW2] at hcl
 obtain ⟨cur2,d1,d2,d3,d4⟩:=setCells_heap g zs ((i+(n-j))*11) W1 c1
 rw [<- hW2] at d1
 have o2:Oth w W2 g:=by rw [hW2];exact o1.trans (oth_setCells g _ _ _)
 have fin:Hid (∃ cur':Array Value,W2.heap[g]?=some (.cells cur' 36 (0,0))/\cur'.size=cur.size/\(∀ q,q<i*11->cur'[q]?=cur[q]?)/\(∀ q,i*11<=q->q<(n-(j-i))*11->cur'[q]?=cur[q+(j-i)*11]?)/\Oth w W2 g):=by
  refine ⟨cur2,d1,by rw [d2,c2],fun q hq=>?_,fun q h1 h2=>?_,o2⟩
  ·rw [d3 q (by omega),c3 q (by omega)]
  ·rw [d3 q (by omega)]
   obtain ⟨t,rfl⟩:∃ t,q=i*11+t:=⟨q-i*11,by omega⟩
   have ht:t<(n-j)*11:=by omega
   have hsome:cur[j*11+t]?=some (cur[j*11+t]'(by omega)):=Array.getElem?_eq_getElem _
   have:=c4 t _ ((hnews t ht).trans hsome) (by omega)
   rw [show 0+i*11+t=i*11+t by omega] at this
   rw [this,show i*11+t+(j-i)*11=j*11+t by omega,hsome]
 have hW:Hid (W1=w.drew.setCells g (0+i*11) news):=hW1
 have hic:i<=cap:=by omega
 have hjc:j<=cap:=by omega
 have hne:¬ ((i:Int)=(j:Int)):=by omega
 clear hW1 hW2 hz1 hnews hnl c1 c2 c3 c4 d1 d2 d3 d4 o1 o2 hone hzl hg
 go_enter Tryz.func161,Tryz.ntmps161
 go_wp2_with fail
 go_region_law_o (refine step_append_room rfl (.tmp 22) (.tmp 25) 26 rfl 36 i0 11 t33 hi0 hzs g 0 i cap (by simp [Act.eval,Act.put]) A (n-j) (cap-j) news (by simp [Act.eval,Act.put]) s1.out hsrc.out s2.out (by omega) s3.out ?_;rw [<- hW.out])
 go_wp2
 go_ret
 exact ⟨by rw [show n-(j-i)=i+(n-j) by omega]<;>rfl,fin.out⟩
theorem ent_delF (args:Array Value) (w:World):(callFunc 161 args).run Tryz.prog w=.ok (.enter 161 args) w:=ent_of Tryz.func161 rfl rfl args w
theorem delF_ok (s:List FTx) (i:Nat) (hi:i<s.length):FunOK Tryz.prog 161 3 [] [(0,k1 (oFTxs s)),(1,kI i),(2,kI ((i:Int)+1))] (·=[(3,k1 (oFTxs (s.eraseIdx i)))]):=by
 have h:=del_fun del_F (by kernel_rfl) ent_delF (typ dFTx eFTxO s) i (i+1) (by omega) (by show i+1<=s.length;omega)
 rw [typ_del _ _ _ _ hi] at h
 exact h
def delF_c:Con Tryz.prog:=⟨161,3,[.give,.lend,.lend],[],List FTx×Nat,some fun b=>b.2<b.1.length,fun b=>[(0,k1 (oFTxs b.1)),(1,kI b.2),(2,kI ((b.2:Int)+1))],fun b=>[(3,k1 (oFTxs (b.1.eraseIdx b.2)))],[],fun b h=>delF_ok b.1 b.2 h⟩
end Go.Proofs.AI
namespace Go.Proofs.AI
set_option linter.unusedVariables false
set_option linter.unusedSimpArgs false
theorem ofN_app (ns:List Note) (n:Note) (tx:Int):ofN (ns++[n]) tx=if n.tx=tx/\n.kind≠4 then n.kind else ofN ns tx:=by
 simp only [ofN,List.foldl_append,List.foldl_cons,List.foldl_nil,ofS]
theorem disk_add {d:Disk} {n:Note} {s:Int} (hd:diskB d=true) (hn:noteB n=true) (hl:d.notes.length≠120) (hs:s=d.safe∨s=(d.notes.length:Int)+1):diskB ⟨d.notes++[n],s⟩=true:=by
 obtain ⟨_,g2,g3,g4⟩:=diskB_small hd
 simp only [diskB,List.length_append,List.length_singleton,Bool.and_eq_true,decide_eq_true_eq,List.all_append,List.all_cons,List.all_nil,Bool.and_true,hn,and_true]
 refine ⟨⟨by omega,?_⟩,List.all_eq_true.2 g4⟩
 simp only [inR,Bool.and_eq_true,decide_eq_true_eq]
 omega
end Go.Proofs.AI
namespace Go.Proofs.AI
set_option linter.unusedVariables false
set_option linter.unusedSimpArgs false
theorem risB_iff {l:List Int}:risB l=true↔ris3 l:=by
 refine ⟨ris3_of,fun h=>?_⟩
 rcases ris3_cases h with rfl | rfl | rfl | rfl | rfl | rfl | rfl | rfl<;>decide
theorem adj_pw {l:List FTx} (h:∀ i,i+1<l.length->(l.getD i dFTx).tx<(l.getD (i+1) dFTx).tx):l.Pairwise fun a b=>a.tx<b.tx:=by
 have lt:∀ d i,i+d+1<l.length->(l.getD i dFTx).tx<(l.getD (i+d+1) dFTx).tx:=fun d=>by
  induction d with
  | zero=>intro i hi;exact h i hi
  | succ d ih=>intro i hi;have:=ih i (by omega);have:=h (i+d+1) (by omega);rw [show i+(d+1)+1=i+d+1+1 by omega];omega
 refine List.pairwise_iff_getElem.2 fun i j hi hj hij=>?_
 have:=lt (j-i-1) i (by omega)
 rw [show i+(j-i-1)+1=j by omega,getD_lt hi,getD_lt hj] at this
 exact this
theorem pw_at {l:List FTx} (h:l.Pairwise fun a b=>a.tx<b.tx) {i j:Nat} (hij:i<j) (hj:j<l.length):(l.getD i dFTx).tx<(l.getD j dFTx).tx:=by
 have:=List.pairwise_iff_getElem.1 h i j (by omega) hj hij
 rwa [getD_lt (by omega:i<l.length),getD_lt hj]
theorem froB_iff {f:Front}:froB f=true↔okF f:=by
 refine ⟨fun h=>?_,fun h=>?_⟩
 ·obtain ⟨g1,g2,g3,g4⟩:=froB_parts h
  have hp:∀ k,k<f.way.length->okT f.disk.notes (f.way.getD k dFTx):=fun k hk=>by
   have:=g4 k hk
   simp only [wayP,Bool.and_eq_true,Bool.or_eq_true,beq_iff_eq,decide_eq_true_eq] at this
   obtain ⟨⟨⟨⟨⟨q1,q2⟩,q3⟩,q4⟩,q5⟩,q6⟩:=this
   refine ⟨by simpa [inR] using q1,risB_iff.1 q3,risB_iff.1 q4,q5,fun hy=>?_⟩
   rcases q6 with q6 | q6
   ·rw [hy] at q6;cases q6
   ·exact ⟨q6.1,List.length_eq_zero_iff.1 q6.2⟩
  refine ⟨g1,g2,g3,adj_pw fun i hi=>?_,fun t ht=>?_⟩
  ·have:=g4 (i+1) hi
   simp only [wayP,Bool.and_eq_true,Bool.or_eq_true,beq_iff_eq,decide_eq_true_eq] at this
   rcases this.1.1.1.1.2 with h0 | h0
   ·omega
   ·simpa using h0
  ·obtain ⟨k,hk,rfl⟩:=List.getElem_of_mem ht
   have:=hp k hk
   rwa [getD_lt hk] at this
 ·simp only [froB,Bool.and_eq_true,decide_eq_true_eq,List.all_eq_true,Bool.or_eq_true,beq_iff_eq,List.mem_range]
  refine ⟨⟨⟨h.fd,h.wl⟩,h.kd⟩,fun k hk=>?_⟩
  have ht:=h.ok _ (getD_mem' (d:=dFTx) hk)
  simp only [wayP,Bool.and_eq_true,Bool.or_eq_true,beq_iff_eq,decide_eq_true_eq]
  refine ⟨⟨⟨⟨⟨by simpa [inR] using ht.tx,?_⟩,risB_iff.2 ht.can⟩,risB_iff.2 ht.know⟩,ht.yes⟩,?_⟩
  ·rcases Nat.eq_zero_or_pos k with h0 | h0
   ·exact .inl h0
   ·exact .inr (pw_at h.ws (by omega) hk)
  ·rcases Bool.eq_false_or_eq_true (f.way.getD k dFTx).yes with hy | hy
   ·exact .inl hy
   ·exact .inr ⟨(ht.op hy).1,by rw [(ht.op hy).2]<;>rfl⟩
theorem okF.small {f:Front} (h:okF f):smallF f:=froB_smallF (froB_iff.2 h)
theorem okT_app {ns:List Note} {n:Note} {t:FTx} (h:okT ns t) (hn:n.kind=4∨n.tx≠t.tx):okT (ns++[n]) t:=by
 refine ⟨h.tx,h.can,h.know,?_,h.op⟩
 rw [h.yes,ofN_app,if_neg]
 rintro ⟨h1,h2⟩
 exact hn.elim h2 (fun h3=>h3 h1)
theorem okF.tx_ne {f:Front} (h:okF f) {i j:Nat} (hi:i<f.way.length) (hj:j<f.way.length) (hij:i≠j):(f.way.getD i dFTx).tx≠(f.way.getD j dFTx).tx:=by
 rcases Nat.lt_or_gt_of_ne hij with h1 | h1
 ·have:=pw_at h.ws h1 hj;omega
 ·have:=pw_at h.ws h1 hi;omega
theorem okF.at_eq {f:Front} (h:okF f) {k:Nat} (hk:k<f.way.length):atF f.way (f.way.getD k dFTx).tx=(k:Int):=by
 refine idxOf_hit (d:=dFTx) hk (by simp) fun j hj=>?_
 have:=pw_at h.ws hj hk
 simp only [beq_eq_false_iff_ne];omega
theorem at_none {w:List FTx} {tx:Int} (h:atF w tx<0):∀ t∈w,t.tx≠tx:=by
 intro t ht he
 simp only [atF,idxOf] at h
 split at h
 ·omega
 ·rename_i hn
  exact hn (List.any_eq_true.2 ⟨t,ht,by simp [he]⟩)
theorem pw_len {l:List FTx} {b:Int} (h:l.Pairwise fun a b=>a.tx<b.tx) (hb:∀ t∈l,0<=t.tx/\t.tx<b):l=[]∨(l.length:Int)<=b:=by
 have key:∀ i,i<l.length->(i:Int)<=(l.getD i dFTx).tx:=fun i=>by
  induction i with
  | zero=>intro hi;exact (hb _ (getD_mem' hi)).1
  | succ i ih=>intro hi;have:=ih (by omega);have:=pw_at h (show i<i+1 by omega) hi;omega
 rcases Nat.eq_zero_or_pos l.length with h0 | h0
 ·exact .inl (List.length_eq_zero_iff.1 h0)
 ·have:=key (l.length-1) (by omega)
  have:=(hb _ (getD_mem' (d:=dFTx) (show l.length-1<l.length by omega))).2
  exact .inr (by omega)
theorem gone_ok {f:Front} (h:okF f) (k:Nat):okF (goneF f k):=by
 refine ⟨h.fd,?_,h.kd,h.ws.sublist (List.eraseIdx_sublist ..),fun t ht=>h.ok t (List.mem_of_mem_eraseIdx ht)⟩
 have:=h.wl
 simp only [goneF,List.length_eraseIdx]
 split<;>omega
theorem noF_ok {f:Front} (h:okF f) (k:Nat):okF (noF f k).1:=gone_ok h k
theorem set_pw {l:List FTx} (h:l.Pairwise fun a b=>a.tx<b.tx) {k:Nat} {t:FTx} (ht:t.tx=(l.getD k dFTx).tx):(l.set k t).Pairwise fun a b=>a.tx<b.tx:=by
 refine List.pairwise_iff_getElem.2 fun i j hi hj hij=>?_
 simp only [List.length_set] at hi hj
 have:=pw_at h hij hj
 rw [getD_lt hi,getD_lt hj] at this
 simp only [List.getElem_set]
 split
 ·rename_i e
  subst e
  rw [if_neg (by omega),ht,getD_lt hi];exact this
 ·split
  ·rename_i e
   subst e
   rw [ht,getD_lt hj];exact this
  ·exact this
theorem set_ok {f:Front} (h:okF f) {k:Nat} {t:FTx} {d:Disk} (hk:k<f.way.length) (hd:diskB d=true) (hkd:∀ n∈d.notes,n.kind=2∨n.kind=4) (ht:t.tx=(f.way.getD k dFTx).tx) (hok:okT d.notes t)
  (ho:∀ u∈f.way,u.tx≠t.tx->okT d.notes u):okF ⟨d,f.way.set k t⟩:=by
 refine ⟨hd,by simpa using h.wl,hkd,set_pw h.ws ht,fun u hu=>?_⟩
 obtain ⟨i,hi,rfl⟩:=List.getElem_of_mem hu
 simp only [List.getElem_set]
 split
 ·exact hok
 ·rename_i hne
  have hi:i<f.way.length:=by simpa using hi
  refine ho _ (List.getElem_mem _) ?_
  have:=h.tx_ne hi hk (fun e=>hne e.symm)
  rw [getD_lt hi] at this
  rw [ht];exact this
theorem setT_ok {f:Front} (h:okF f) {k:Nat} {t:FTx} (hk:k<f.way.length) (ht:t.tx=(f.way.getD k dFTx).tx) (hok:okT f.disk.notes t):okF (setT f k t) :=
 set_ok h hk h.fd h.kd ht hok fun u hu _=>h.ok u hu
theorem begin_free {f:Front} (h:okF f) {tx:Int} (hn:¬ noBegin f tx):(∀ t∈f.way,t.tx<tx)/\ofN f.disk.notes tx=0/\f.disk.notes.length+2*f.way.length+2<=120:=by
 simp only [noBegin,not_or,not_and] at hn
 obtain ⟨n1,n2,n3,n4⟩:=hn
 have hne:=at_none (w:=f.way) (tx:=tx) (by omega)
 refine ⟨fun t ht=>?_,by omega,by omega⟩
 obtain ⟨k,hk,rfl⟩:=List.getElem_of_mem ht
 have hl:(f.way.getD (f.way.length-1) dFTx).tx<=tx:=by have:=n3 (by omega);omega
 have hne:=hne _ (getD_mem' (d:=dFTx) (show f.way.length-1<f.way.length by omega))
 rcases Nat.lt_or_ge k (f.way.length-1) with h1 | h1
 ·have:=pw_at h.ws h1 (by omega)
  rw [getD_lt hk] at this
  omega
 ·have:k=f.way.length-1:=by omega
  subst this
  rw [getD_lt hk] at hl hne
  omega
theorem begin_ok {f:Front} (h:okF f) {tx:Int} {o:Opr} (ht:0<=tx/\tx<=29) (ho:opOk o=true):okF (beginF f tx o).1:=by
 simp only [beginF]
 split
 ·exact h
 ·rename_i hn
  obtain ⟨n1,n2,n3⟩:=begin_free h hn
  refine ⟨h.fd,?_,h.kd,?_,fun t hm=>?_⟩
  ·have:=pw_len h.ws fun t hm=>⟨(h.ok t hm).tx.1,n1 t hm⟩
   simp only [List.length_append,List.length_singleton]
   rcases this with e | e
   ·rw [e];simp
   ·omega
  ·refine List.pairwise_append.2 ⟨h.ws,by simp,fun a ha b hb=>?_⟩
   simp at hb;subst hb
   exact n1 a ha
  ·rcases List.mem_append.1 hm with hm | hm
   ·exact h.ok t hm
   ·simp at hm;subst hm
    exact ⟨ht,ris3_nil,ris3_nil,by simp [n2],fun _=>⟨ho,rfl⟩⟩
theorem addD_some {d:Disk} {n:Note} {s:Bool} (hd:diskB d=true) (hn:noteB n=true) (hs:(addD d n s).2=true):addD d n s=(⟨d.notes++[n],if s=true then (d.notes.length:Int)+1 else d.safe⟩,true)/\d.notes.length≠120:=by
 simp only [addD,hd,hn,Bool.and_self,if_true] at hs ⊢
 split at hs
 ·cases hs
 ·rename_i h
  exact ⟨by rw [if_neg h],h⟩
theorem note_yes {k tx:Int} (hk:k=2∨k=3∨k=4) (h:0<=tx/\tx<=29):noteB ⟨k,tx,[],[]⟩=true:=by
 rcases hk with rfl | rfl | rfl<;>simp [noteB,inR,h]
theorem can_ok {f:Front} (h:okF f) {k:Nat} {p:Int} (hk:k<f.way.length) (hp:1<=p/\p<=3) (hy:(f.way.getD k dFTx).yes=false):okF (canF f k p).1:=by
 have ht:=h.at_ hk
 have h1:okF (setT f k (canT (f.way.getD k dFTx) p)):=setT_ok h hk rfl ⟨ht.tx,putP_ris ht.can hp,ht.know,ht.yes,ht.op⟩
 simp only [canF]
 split
 ·exact h1
 ·split
  ·rename_i hs
   have hn:=note_yes (k:=2) (.inl rfl) ht.tx
   obtain ⟨e,hl⟩:=addD_some h.fd hn hs
   rw [e]
   refine set_ok h hk (disk_add h.fd hn hl (.inr (by simp))) (fun n hn=>?_) rfl ⟨ht.tx,putP_ris ht.can hp,ht.know,?_,fun hc=>by cases hc⟩ fun u hu hne=>okT_app (h.ok u hu) (.inr (fun e=>hne e.symm))
   ·rcases List.mem_append.1 hn with hn | hn
    ·exact h.kd n hn
    ·simp at hn;subst hn;exact .inl rfl
   ·show true=_
    rw [ofN_app,if_pos ⟨rfl,(by decide:(2:Int)≠4)⟩]<;>rfl
  ·exact noF_ok h1 k
theorem know_ok {f:Front} (h:okF f) {k:Nat} {p:Int} (hk:k<f.way.length) (hp:1<=p/\p<=3) (hy:(f.way.getD k dFTx).yes=true):okF (knowF f k p):=by
 have ht:=h.at_ hk
 have h1:okF (setT f k (knowT (f.way.getD k dFTx) p)):=setT_ok h hk rfl ⟨ht.tx,ht.can,putP_ris ht.know hp,ht.yes,fun hc=>by simp only [knowT] at hc;rw [hy] at hc;cases hc⟩
 simp only [knowF]
 split
 ·exact h1
 ·split
  ·rename_i hs
   have hn:=note_yes (k:=4) (.inr (.inr rfl)) ht.tx
   obtain ⟨e,hl⟩:=addD_some h.fd hn hs
   rw [e]
   refine ⟨disk_add h.fd hn hl (.inl (by simp)),?_,fun n hn=>?_,h.ws.sublist (List.eraseIdx_sublist ..),fun u hu=>okT_app (h.ok u (List.mem_of_mem_eraseIdx hu)) (.inl rfl)⟩
   ·have:=h.wl
    simp only [List.length_eraseIdx]
    split<;>omega
   ·rcases List.mem_append.1 hn with hn | hn
    ·exact h.kd n hn
    ·simp at hn;subst hn;exact .inr rfl
  ·exact h1
inductive FroC (f:Front) (m:Msg):Prop
 | know (k:Nat):m.kind=6->k<f.way.length->(f.way.getD k dFTx).tx=m.tx->(f.way.getD k dFTx).yes=true->atF f.way m.tx=k->hearF f m=(knowF f k m.frm,[],[])->FroC f m
 | can (k:Nat):m.kind=4->k<f.way.length->(f.way.getD k dFTx).tx=m.tx->(f.way.getD k dFTx).yes=false->atF f.way m.tx=k->hearF f m=canF f k m.frm->FroC f m
 | cant (k:Nat):m.kind=5->k<f.way.length->(f.way.getD k dFTx).tx=m.tx->(f.way.getD k dFTx).yes=false->atF f.way m.tx=k->hearF f m=noF f k->FroC f m
 | what:(m.kind=4∨m.kind=7)->(m.kind=4->∀ k,k<f.way.length->(f.way.getD k dFTx).tx=m.tx->(f.way.getD k dFTx).yes=true)->hearF f m=(f,whatF f m,[])->FroC f m
 | vain:m.kind≠4->m.kind≠7->(m.kind=6->∀ k,k<f.way.length->(f.way.getD k dFTx).tx=m.tx->(f.way.getD k dFTx).yes=false)->(m.kind=5->∀ k,k<f.way.length->(f.way.getD k dFTx).tx=m.tx->(f.way.getD k dFTx).yes=true)->hearF f m=(f,[],[])->FroC f m
theorem fro_cases {f:Front} (h:okF f) (m:Msg):FroC f m:=by
 have hat:=atF_lt (w:=f.way) (tx:=m.tx)
 have huni:∀ k,k<f.way.length->(f.way.getD k dFTx).tx=m.tx->atF f.way m.tx=(k:Int):=fun k hk e=>e▸h.at_eq hk
 by_cases c1:m.kind=6/\0<=atF f.way m.tx/\yesAt f (atF f.way m.tx)=true
 ·obtain ⟨a1,a2,a3⟩:=c1
  exact .know _ a1 (hat a2).1 (hat a2).2 a3 (by omega) (by simp only [hearF,if_pos (⟨a1,a2,a3⟩:m.kind=6/\0<=atF f.way m.tx/\yesAt f (atF f.way m.tx)=true)])
 by_cases c2:m.kind=4/\0<=atF f.way m.tx/\yesAt f (atF f.way m.tx)=false
 ·obtain ⟨a1,a2,a3⟩:=c2
  exact .can _ a1 (hat a2).1 (hat a2).2 a3 (by omega) (by simp only [hearF,if_neg c1,if_pos (⟨a1,a2,a3⟩:m.kind=4/\0<=atF f.way m.tx/\yesAt f (atF f.way m.tx)=false)])
 by_cases c3:m.kind=5/\0<=atF f.way m.tx/\yesAt f (atF f.way m.tx)=false
 ·obtain ⟨a1,a2,a3⟩:=c3
  exact .cant _ a1 (hat a2).1 (hat a2).2 a3 (by omega) (by simp only [hearF,if_neg c1,if_neg c2,if_pos (⟨a1,a2,a3⟩:m.kind=5/\0<=atF f.way m.tx/\yesAt f (atF f.way m.tx)=false)])
 by_cases c4:m.kind=4∨m.kind=7
 ·refine .what c4 (fun a1 k hk e=>?_) (by simp only [hearF,if_neg c1,if_neg c2,if_neg c3,if_pos c4])
  have he:=huni k hk e
  rw [he] at c2
  rcases Bool.eq_false_or_eq_true (f.way.getD k dFTx).yes with hy | hy
  ·exact hy
  ·exact absurd ⟨a1,by omega,by simpa [yesAt] using hy⟩ c2
 ·refine .vain (fun e=>c4 (.inl e)) (fun e=>c4 (.inr e)) (fun a1 k hk e=>?_) (fun a1 k hk e=>?_) (by simp only [hearF,if_neg c1,if_neg c2,if_neg c3,if_neg c4])
  ·have he:=huni k hk e
   rw [he] at c1
   rcases Bool.eq_false_or_eq_true (f.way.getD k dFTx).yes with hy | hy
   ·exact absurd ⟨a1,by omega,by simpa [yesAt] using hy⟩ c1
   ·exact hy
  ·have he:=huni k hk e
   rw [he] at c3
   rcases Bool.eq_false_or_eq_true (f.way.getD k dFTx).yes with hy | hy
   ·exact hy
   ·exact absurd ⟨a1,by omega,by simpa [yesAt] using hy⟩ c3
theorem hear_ok {f:Front} (h:okF f) {m:Msg} (hm:1<=m.frm/\m.frm<=3):okF (hearF f m).1:=by
 cases fro_cases h m with
 | know k a1 a2 a3 a4 a5 e=>rw [e];exact know_ok h a2 hm a4
 | can k a1 a2 a3 a4 a5 e=>rw [e];exact can_ok h a2 hm a4
 | cant k a1 a2 a3 a4 a5 e=>rw [e];exact noF_ok h k
 | what a1 a2 e=>rw [e];exact h
 | vain a1 a2 a3 a4 e=>rw [e];exact h
end Go.Proofs.AI
namespace Go.Proofs.AI
open Go.RowKit Go.Proofs
set_option linter.unusedVariables false
set_option linter.unusedSimpArgs false
set_option maxRecDepth 100000
theorem CmpNaN_ok (x:Int):FunOK Tryz.prog 228 1 [] [(0,kI x)] (·=[(1,kB false)]):=by
 refine fun_to (E:=⟨tab,ctOf [],6,[],[(0,[0]),(1,[2])],[],[],[],[]⟩) tab_ok mixed Tryz.func228 rfl Tryz.ntmps228 (rvs:=[.tmp 2]) Tryz.results228 rfl fun hl=>?_
 refine cast (show ((x != x)=false)=_ by kernel_rfl) ?_
 simp
def CmpNaN_c:Con Tryz.prog:=con0 [.lend] fun b:Int=>CmpNaN_ok b
theorem CmpLess_ok (x:Int) (y:Int):FunOK Tryz.prog 216 2 [] [(0,kI x),(1,kI y)] (·=[(2,kB (decide (x<y)))]):=by
 refine fun_to (E:=⟨tab,ctOf [CmpNaN_c],17,[],[(0,[0,1]),(1,[4])],[],[],[],[]⟩) tab_ok mixed Tryz.func216 rfl Tryz.ntmps216 (rvs:=[.tmp 4]) Tryz.results216 rfl fun hl=>?_
 refine cast (show (∃ (b:Int),x=b/\(false=true->∃ (b:Int),y=b/\((!false)=false->decide (x<y)=decide (x<y))/\((!false)=true->true=decide (x<y)))/\(false=false->decide (x<y)=decide (x<y)))=_ by kernel_rfl) ?_
 simp
def CmpLess_c:Con Tryz.prog:=con0 [.lend,.lend] fun b:Int×Int=>CmpLess_ok (b.1) (b.2)
theorem SlNaN_ok (x:Int):FunOK Tryz.prog 217 1 [] [(0,kI x)] (·=[(1,kB false)]):=by
 refine fun_to (E:=⟨tab,ctOf [],6,[],[(0,[0]),(1,[2])],[],[],[],[]⟩) tab_ok mixed Tryz.func217 rfl Tryz.ntmps217 (rvs:=[.tmp 2]) Tryz.results217 rfl fun hl=>?_
 refine cast (show ((x != x)=false)=_ by kernel_rfl) ?_
 simp
def SlNaN_c:Con Tryz.prog:=con0 [.lend] fun b:Int=>SlNaN_ok b
def posI (l:List Int) (x:Int):Nat:=(l.takeWhile fun y=>decide (y<x)).length
def hitI (l:List Int) (x:Int):Bool:=decide (posI l x<l.length)&&l.getD (posI l x) 0==x
theorem posI_lt {l:List Int} (hs:l.Pairwise (·<·)) {x:Int} {h:Nat} (hh:h<l.length):l.getD h 0<x↔h<posI l x:=by
 induction l generalizing h with
 | nil=>simp at hh
 | cons a l ih =>
  simp only [List.pairwise_cons] at hs
  simp only [posI,List.takeWhile_cons]
  by_cases ha:a<x
  ·rw [if_pos (by simpa using ha)]
   cases h with
   | zero=>simpa using ha
   | succ h =>
    have:=ih hs.2 (h:=h) (by simpa using hh)
    simp only [posI] at this
    simp only [List.getD_cons_succ,List.length_cons,Nat.add_lt_add_iff_right]
    exact this
  ·rw [if_neg (by simpa using ha)]
   simp only [List.length_nil,Nat.not_lt_zero,iff_false]
   cases h with
   | zero=>simpa using ha
   | succ h =>
    have hh:h<l.length:=by simpa using hh
    have:=hs.1 (l.getD h 0) (by rw [getD_lt hh];exact List.getElem_mem _)
    simp only [List.getD_cons_succ];omega
theorem posI_le (l:List Int) (x:Int):posI l x<=l.length:=by
 simp only [posI]
 exact (List.takeWhile_prefix _).length_le
theorem BinInt_ok (l:List Int) (t:Int) (hpre:l.Pairwise (·<·)/\l.length<=1000):FunOK Tryz.prog 203 2 [] [(0,k1 (sI l)),(1,kI t)] (·=[(2,⟨.tup [(false,1),(false,1)],[.c (.n .i64 (posI l t)),.c (.b (hitI l t))],[]⟩)]):=by
 refine fun_to (E:=⟨tab,ctOf [CmpLess_c,SlNaN_c],54,[],[(0,[0,1]),(1,[0,1,6]),(2,[0,1,6,7,8]),(3,[0,1,6,7,8,15]),(4,[0,1,6,7,8,9]),(5,[0,1,6,7,8,9,27]),(6,[0,1,6,7,8]),(7,[0,1,6,7,8]),(8,[4,5])],[(0,⟨Int×Int,fun x=>[(0,(k1 (.sh 3 (typ (0:Int) eI l)))),(1,(k1 (.n .i64 t))),(6,(k1 (.n .i64 ((↑l.length:Int))))),(7,(k1 (.n .i64 (x.1)))),(8,(k1 (.n .i64 (x.2))))]⟩)],[],[],[]⟩) tab_ok mixed Tryz.func203 rfl Tryz.ntmps203 (rvs:=[.tmp 4,.tmp 5]) Tryz.results203 rfl fun hl=>?_
 refine cast (show (let k_1:Prop:=zi l.length=zi l.length;∃ (pre:Int×Int->Prop),∃ (μ:Int×Int->Nat),∃ (x0:Int×Int),(q_I l l/\t=t/\k_1/\i_0=x0.1/\zi l.length=x0.2)/\pre x0/\(∀ (x:Int×Int),let k_2:Prop:=x.1=(zi (posI l t))/\false=hitI l t;pre x->(decide (x.1<x.2)=true->i_0<=i_1/\(i_0<=wr_ ((IntKind.u64.wrap (wr_ (x.1+x.2))).fdiv (i_2 ^ min (Int.toNat i_1) IntKind.u64.bits))/\wr_ ((IntKind.u64.wrap (wr_ (x.1+x.2))).fdiv (i_2 ^ min (Int.toNat i_1) IntKind.u64.bits))<zi l.length)/\(∃ (b:Int×Int),(l.getD (wr_ ((IntKind.u64.wrap (wr_ (x.1+x.2))).fdiv (i_2 ^ min (Int.toNat i_1) IntKind.u64.bits))).toNat i_0=b.1/\t=b.2)/\(decide (b.1<b.2)=true->∃ (y:Int×Int),(q_I l l/\t=t/\k_1/\wr_ (wr_ ((IntKind.u64.wrap (wr_ (x.1+x.2))).fdiv (i_2 ^ min (Int.toNat i_1) IntKind.u64.bits))+i_1)=y.1/\x.2=y.2)/\pre y/\μ y<μ x)/\(decide (b.1<b.2)=false->∃ (y:Int×Int),(q_I l l/\t=t/\k_1/\x.1=y.1/\wr_ ((IntKind.u64.wrap (wr_ (x.1+x.2))).fdiv (i_2 ^ min (Int.toNat i_1) IntKind.u64.bits))=y.2)/\pre y/\μ y<μ x)))/\(decide (x.1<x.2)=false->(decide (x.1<zi l.length)=true->(i_0<=x.1/\x.1<zi l.length)/\((l.getD x.1.toNat i_0==t)=false->(i_0<=x.1/\x.1<zi l.length)/\(∃ (b:Int),l.getD x.1.toNat i_0=b/\(false=true->∃ (b:Int),t=b/\k_2)/\(false=false->k_2)))/\((l.getD x.1.toNat i_0==t)=true->x.1=(zi (posI l t))/\true=hitI l t))/\(decide (x.1<zi l.length)=false->k_2))))=_ by kernel_rfl) ?_
 delta i_0 i_1 i_2 wr_ zi t_I q_I
 simp only [zza,zzb,true_and,and_true,and_self,ne_eq,cI_app,cWrtO_app,cWrtS_app,cWrtO_1,cItemO_1,opr_ex,zcast,frz_nil,nil_map,Option.getD_none,Option.getD_some]
 obtain ⟨p1,p2⟩:=hpre
 have hp0:=posI_le l t
 refine ⟨fun x=>∃ i j:Nat,x=((i:Int),(j:Int))/\i<=posI l t/\posI l t<=j/\j<=l.length,⟨0,l.length,rfl,by omega,hp0,by omega⟩,fun x=>(x.2-x.1).toNat,fun a b hp=>?_⟩
 obtain ⟨i,j,h0,h1,h2,h3⟩:=hp
 cases h0
 rw [half_eq (by omega) (by omega)]
 refine ⟨fun hlt=>?_,fun hge=>?_⟩
 ·have hm:(i+j) / 2<j:=by omega
  obtain ⟨m,hmm⟩:∃ m,m=(i+j) / 2:=⟨_,rfl⟩
  rw [<- hmm] at hm ⊢
  rw [wrapN (by omega)]
  have hpl:=posI_lt p1 (x:=t) (show m<l.length by omega)
  refine ⟨by omega,by omega,by omega,fun hc=>?_,fun hc=>?_⟩
  ·have:=hpl.1 hc
   exact ⟨⟨m+1,j,rfl,by omega,by omega,by omega⟩,by simp only;omega⟩
  ·have:=mt hpl.2 hc
   exact ⟨⟨i,m,rfl,by omega,by omega,by omega⟩,by simp only;omega⟩
 ·have hij:i=j:=by omega
  subst hij
  have hi:i=posI l t:=by omega
  rw [Int.toNat_natCast]
  refine ⟨fun hlt=>⟨by omega,hlt,fun hne=>⟨by omega,hlt,fun h=>by simp at h,fun _=>⟨by omega,?_⟩⟩,fun he=>⟨by omega,?_⟩⟩,fun hge=>⟨by omega,?_⟩⟩
  ·rw [hi] at hne;simp only [hitI,beq_eq_false_iff_ne.2 hne,Bool.and_false]
  ·rw [hi] at he;simp only [hitI,he,beq_self_eq_true,Bool.and_true];exact (decide_eq_true (by omega)).symm
  ·simp only [hitI];rw [decide_eq_false (by omega)]<;>rfl
def BinInt_c:Con Tryz.prog:=conP [.lend,.lend] fun (b:List Int×Int) h=>BinInt_ok (b.1) (b.2) h
theorem impl_put_ok (l:List Int) (t:Int) (hpre:ris3 l/\1<=t/\t<=3):FunOK Tryz.prog 174 2 [] [(0,k1 (oI l)),(1,kI t)] (·=[(2,k1 (oI (putP l t)))]):=by
 refine fun_to (E:=⟨tab,ctOf [BinInt_c,insI_c],21,[],[(0,[0,1,19,20]),(1,[0,1,5,6,19,20]),(2,[0,1,5,14,19,20]),(3,[0,4,19,20]),(4,[0,4,19,20])],[],[(3,[(1000000,[])]),(4,[(1000000,[])])],[],[]⟩) tab_ok mixed Tryz.func174 rfl Tryz.ntmps174 (rvs:=[.tmp 4]) Tryz.results174 rfl fun hl=>?_
 refine cast (show (∃ (b:List Int×Int),(cnRs (frozenRs (typ i_0 eI l))=t_I b.1/\t=b.2)/\(List.Pairwise (fun (x1 x2:Int)=>x1<x2) b.1/\b.1.length<=n_1000)/\((!hitI b.1 b.2)=true->∃ (b_1:y_6),(q_I l b_1.1/\(zi (posI b.1 b.2))=zi b_1.2.1/\cnRs (typ i_0 (fun (y:Int)=>[cn_ y]) [t])=cnRs (raw [[cn_ b_1.2.2]]))/\(b_1.2.1<=b_1.1.length/\b_1.1.length<=n_1000)/\q_I (b_1.1.insertIdx b_1.2.1 b_1.2.2) (putP l t))/\((!hitI b.1 b.2)=false->q_I l (putP l t)))=_ by kernel_rfl) ?_
 delta i_0 zi t_I q_I n_1000 cn_ y_6
 obtain ⟨p1,p2,p3⟩:=hpre
 have hl:=ris3_len p1
 simp only [zza,zzb,true_and,and_true,and_self,ne_eq,cI_app,cWrtO_app,cWrtS_app,cWrtO_1,cItemO_1,opr_ex,zcast,frz_nil,nil_map,Option.getD_none,Option.getD_some]
 refine ⟨p1.1,by omega,?_⟩
 have:t=1∨t=2∨t=3:=by omega
 rcases ris3_cases p1 with rfl | rfl | rfl | rfl | rfl | rfl | rfl | rfl<;>rcases this with rfl | rfl | rfl
 all_goals refine ⟨fun h=>?_,fun h=>?_⟩
 all_goals first
  | exact absurd h (by decide)
  | exact ⟨1,rfl,by decide,by decide,by decide⟩
  | exact ⟨2,rfl,by decide,by decide,by decide⟩
  | exact ⟨3,rfl,by decide,by decide,by decide⟩
  | decide
def impl_put_c:Con Tryz.prog:=conP [.give,.lend] fun (b:List Int×Int) h=>impl_put_ok (b.1) (b.2) h
end Go.Proofs.AI
namespace Go.Proofs.AI
open Go.RowKit Go.Proofs
set_option linter.unusedVariables false
set_option linter.unusedSimpArgs false
set_option maxRecDepth 100000
theorem impl_FroState_copied_ok (f:Front) (hpre:smallF f):FunOK Tryz.prog 69 1 [] [(0,kFrontS f)] (·=[(1,kFrontO f)]):=by
 refine fun_to (E:=⟨tab,ctOf [impl_LogDisk_copied_c,CloneI_c],33,[],[(0,[1,2,3,32]),(1,[1,2,3,32]),(2,[1,2,3,10,11,12,13,32]),(3,[1,2,3,10,11,12,13,14,32]),(4,[1,2,3,5,10,11,12,13,32]),(5,[1,2,3,5,10,11,12,13,32]),(6,[1,2,3,10,11,12,13,32]),(7,[1,2,3,10,11,12,13,32]),(8,[2,3,32])],[(0,⟨List FTx×Nat,fun x=>[(1,⟨.box,[.c (.sh 72 (typ dNote eNoteS f.disk.notes)),.c (.n .i64 f.disk.safe),.c (.sh 36 (typ dFTx eFTxS f.way))],[]⟩),(2,⟨.box,[.c (.ow 72 nilR),.c (.n .i64 ((0:Int))),.c (.ow 36 nilR)],[]⟩),(3,⟨.box,[.c (.ow 72 (typ dNote eNoteO f.disk.notes)),.c (.n .i64 f.disk.safe),.c (oFTxs (x.1))],[]⟩),(10,⟨.one,[.pr 1 2 0],[]⟩),(11,(k1 (.sh 36 (typ dFTx eFTxS f.way)))),(12,(k1 (.n .i64 ((↑f.way.length:Int))))),(13,(k1 (.n .i64 (x.2:Int))))]⟩)],[(6,[(1000002,[])])],[],[]⟩) tab_ok mixed Tryz.func69 rfl Tryz.ntmps69 (rvs:=[.cell 2 28]) Tryz.results69 rfl fun hl=>?_
 refine cast (show (let k_4:Prop:=f.disk.safe=f.disk.safe;let k_3:Prop:=n_1=n_1/\n_2=n_2/\true=true;let k_2:Prop:=cnRs nilR=cnRs nilR/\i_0=i_0/\cnRs nilR=cnRs nilR;let k_1:Prop:=q_e f.disk.notes f.disk.notes/\k_4/\q_h f.way f.way;∃ (b:Disk),(q_e f.disk.notes b.notes/\f.disk.safe=b.safe)/\smallD b/\(∃ (pre:List FTx×Nat->Prop),∃ (μ:List FTx×Nat->Nat),∃ (x0:List FTx×Nat),(k_1/\k_2/\(q_f b.notes f.disk.notes/\b.safe=f.disk.safe/\cnRs nilR=t_j x0.1)/\k_3/\q_h f.way f.way/\zi f.way.length=zi f.way.length/\i_0=zi x0.2)/\pre x0/\(∀ (x:List FTx×Nat),pre x->(decide (zi x.2<zi f.way.length)=true->(i_0<=zi x.2/\zi x.2<zi f.way.length)/\(∃ (b:List Int),q_I (g_FTx f.way x.2).can b/\b.length<=n_1000/\(∃ (b_1:List Int),q_I (g_FTx f.way x.2).know b_1/\b_1.length<=n_1000/\(x.1.length+n_1)*n_120<=n_140737488355328/\(∃ (y:List FTx×Nat),(k_1/\k_2/\(q_f f.disk.notes f.disk.notes/\k_4/\cnRs (appR (typ dFTx eFTxO x.1) (raw [[cn_ (g_FTx f.way x.2).tx,cn_ (g_FTx f.way x.2).op.kind,cn_ (g_FTx f.way x.2).op.who,cn_ (g_FTx f.way x.2).op.inn,cn_ (g_FTx f.way x.2).op.code,cn_ (g_FTx f.way x.2).op.sec,cn_ (g_FTx f.way x.2).op.fam,cn_ (g_FTx f.way x.2).op.gen,CV.b (g_FTx f.way x.2).yes,CV.ow n_3 (typ i_0 eI b),CV.ow n_3 (typ i_0 eI b_1)]]))=t_j y.1)/\k_3/\q_h f.way f.way/\zi f.way.length=zi f.way.length/\wr_ ((zi x.2)+i_1)=zi y.2)/\pre y/\μ y<μ x))))/\(decide (zi x.2<zi f.way.length)=false->q_f f.disk.notes f.disk.notes/\k_4/\q_j x.1 f.way))))=_ by kernel_rfl) ?_
 delta i_0 i_1 wr_ zi t_I q_I n_140737488355328 n_1 n_3 n_1000 cn_ n_2 t_e q_e t_f q_f n_120 g_FTx t_h q_h t_j q_j
 obtain ⟨p1,p2,p3⟩:=hpre
 simp only [zza,zzb,true_and,and_true,and_self,ne_eq,cI_app,cWrtO_app,cWrtS_app,cWrtO_1,cItemO_1,opr_ex,zcast,frz_nil,nil_map,Option.getD_none,Option.getD_some]
 refine ⟨p1,fun x=>x.2<=f.way.length/\x.1=f.way.take x.2,⟨by omega,rfl⟩,fun x=>f.way.length-x.2,fun a i hp=>?_⟩
 obtain ⟨h1,h2⟩:=hp
 simp only at h1 h2
 subst h2
 refine ⟨fun hlt=>?_,fun hge=>?_⟩
 ·have hm:f.way.getD i dFTx∈f.way:=by rw [getD_lt (by omega)];exact List.getElem_mem _
  refine ⟨by omega,hlt,(p3 _ hm).1,(p3 _ hm).2,by rw [List.length_take];omega,f.way.take (i+1),?_,i+1,wrapN (by omega),⟨by simp only;omega,rfl⟩,by simp only;omega⟩
  rw [take_succ (d:=dFTx) (by omega)]
  simp
 ·have:i=f.way.length:=by omega
  subst this
  simp
def impl_FroState_copied_c:Con Tryz.prog:=conP [.lend] fun (b:Front) h=>impl_FroState_copied_ok b h
theorem TxIs_ok (t:FTx) (tx:Int):FunOK Tryz.prog 160 2 [] [(0,kFTxS t),(1,k1 (.rp [.n .i64 tx]))] (·=[(2,kB (t.tx==tx))]):=by
 refine fun_to (E:=⟨tab,ctOf [],8,[],[(0,[1,2]),(1,[3])],[],[],[],[]⟩) tab_ok mixed Tryz.func160 rfl Tryz.ntmps160 (rvs:=[.tmp 3]) Tryz.results160 rfl fun hl=>?_
 refine cast (show ((t.tx==tx)=(t.tx==tx))=_ by kernel_rfl) ?_
 simp only [zza,zzb,true_and,and_true,and_self,ne_eq,cI_app,cWrtO_app,cWrtS_app,cWrtO_1,cItemO_1,opr_ex,zcast,frz_nil,nil_map,Option.getD_none,Option.getD_some]
 done
def TxIs_c:Con Tryz.prog:=con0 [.lend] fun b:FTx×Int=>TxIs_ok (b.1) (b.2)
theorem IndexTx_ok (xs:List FTx) (tx:Int):FunOK Tryz.prog 159 2 [] [(0,k1 (sFTxs xs)),(1,k1 (.fn 160 [.rp [.n .i64 tx]]))] (·=[(2,kI (atF xs tx))]):=by
 refine fun_to (E:=⟨tab,ctOf [TxIs_c],19,[],[(0,[0,1]),(1,[0,1,7,8]),(2,[0,1,7,8,9]),(3,[0,1,5,7,8]),(4,[0,1,5,7,8,16]),(5,[4]),(6,[0,1,7,8]),(7,[4])],[(0,⟨Nat,fun x=>[(0,(k1 (.sh 36 (typ dFTx eFTxS xs)))),(1,(k1 (.fn 160 ([CV.rp [CV.n .i64 tx]])))),(7,(k1 (.n .i64 ((↑xs.length:Int))))),(8,(k1 (.n .i64 (x:Int))))]⟩)],[],[],[]⟩) tab_ok mixed Tryz.func159 rfl Tryz.ntmps159 (rvs:=[.tmp 4]) Tryz.results159 rfl fun hl=>?_
 refine cast (show (let k_1:Prop:=cnR [CV.rp [cn_ tx]]=cnR [CV.rp [cn_ tx]];∃ (pre:Nat->Prop),∃ (μ:Nat->Nat),∃ (x0:Nat),(q_h xs xs/\k_1/\zi xs.length=zi xs.length/\i_0=zi x0)/\pre x0/\(∀ (x:Nat),pre x->(decide (zi x<zi xs.length)=true->(i_0<=zi x/\zi x<zi xs.length)/\(∃ (b:FTx×Int),(((g_FTx xs x).tx=b.1.tx/\(g_FTx xs x).op.kind=b.1.op.kind/\(g_FTx xs x).op.who=b.1.op.who/\(g_FTx xs x).op.inn=b.1.op.inn/\(g_FTx xs x).op.code=b.1.op.code/\(g_FTx xs x).op.sec=b.1.op.sec/\(g_FTx xs x).op.fam=b.1.op.fam/\(g_FTx xs x).op.gen=b.1.op.gen/\(g_FTx xs x).yes=b.1.yes/\q_I (g_FTx xs x).can b.1.can/\q_I (g_FTx xs x).know b.1.know)/\cnR [cn_ tx]=cnR [cn_ b.2])/\((b.1.tx==b.2)=true->zi x=atF xs tx)/\((b.1.tx==b.2)=false->∃ (y:Nat),(q_h xs xs/\k_1/\zi xs.length=zi xs.length/\wr_ ((zi x)+i_1)=zi y)/\pre y/\μ y<μ x)))/\(decide (zi x<zi xs.length)=false->(-1:Int)=atF xs tx)))=_ by kernel_rfl) ?_
 delta i_0 i_1 wr_ zi t_I q_I cn_ g_FTx t_h q_h
 have hx:xs.length<=9223372036854775807:=hl.1 _ (List.mem_singleton.2 rfl)
 simp only [zza,zzb,true_and,and_true,and_self,ne_eq,cI_app,cWrtO_app,cWrtS_app,cWrtO_1,cItemO_1,opr_ex,zcast,frz_nil,nil_map,Option.getD_none,Option.getD_some]
 refine ⟨fun i=>i<=xs.length/\∀ j,j<i->(fun t:FTx=>t.tx==tx) (xs.getD j dFTx)=false,⟨by simp,fun j hj=>absurd hj (Nat.not_lt_zero _)⟩,fun i=>xs.length-i,fun i hi=>?_⟩
 obtain ⟨h1,h2⟩:=hi
 refine ⟨fun hlt=>⟨by omega,by omega,tx,rfl,fun hp=>?_,fun hp=>⟨i+1,wrapN (by omega),⟨by omega,below_succ h2 (by simpa using hp)⟩,by simp only;omega⟩⟩,fun hge=>?_⟩
 ·exact (idx_hit (p:=fun t:FTx=>t.tx==tx) (d:=dFTx) (by omega) (by simpa using hp) h2).symm
 ·exact (idx_miss (p:=fun t:FTx=>t.tx==tx) (d:=dFTx) fun j hj=>h2 j (by omega)).symm
def IndexTx_c:Con Tryz.prog:=con0 [.lend,.lend] fun b:List FTx×Int=>IndexTx_ok (b.1) (b.2)
theorem impl_FroState_find_ok (f:Front) (tx:Int):FunOK Tryz.prog 118 2 [0] [(0,⟨.box,cKFrontO f,[]⟩),(1,kI tx)] (·=[(2,kI (atF f.way tx)),(0,⟨.box,cKFrontO f,[]⟩)]):=by
 refine fun_to (E:=⟨tab,ctOf [],11,[0],[(0,[0,3]),(1,[0,4])],[],[],[],[(1,[IndexTx_c])]⟩) tab_ok mixed Tryz.func118 rfl Tryz.ntmps118 (rvs:=[.tmp 4]) Tryz.results118 rfl fun hl=>?_
 refine cast (show (True/\∃ (b:List FTx×Int),(cnRs (frozenRs (typ dFTx eFTxO f.way))=t_h b.1/\cnR [CV.rp [cn_ tx]]=cnR [CV.rp [cn_ b.2]])/\atF b.1 b.2=atF f.way tx/\q_f f.disk.notes f.disk.notes/\f.disk.safe=f.disk.safe/\q_j f.way f.way)=_ by kernel_rfl) ?_
 delta cn_ t_f q_f t_h t_j q_j
 simp only [zza,zzb,true_and,and_true,and_self,ne_eq,cI_app,cWrtO_app,cWrtS_app,cWrtO_1,cItemO_1,opr_ex,zcast,frz_nil,nil_map,Option.getD_none,Option.getD_some]
 exact ⟨tx,rfl,rfl⟩
def impl_FroState_find_c:Con Tryz.prog:=con0 [.ptr,.lend] fun b:Front×Int=>impl_FroState_find_ok (b.1) (b.2)
def toldF (kind tx:Int) (o:Opr) (ps:List Int):List Msg:=ps.map fun p=>⟨kind,p,0,tx,o⟩
theorem told_send {k tx:Int} {o:Opr} {ps:List Int} (h:k=1∨o=dOpr):toldF k tx o ps=sendF k tx o ps:=by
 simp only [toldF,sendF]
 rcases h with h | h
 ·simp only [h,if_true]
 ·simp only [h,ite_self]
theorem impl_told_ok (kind:Int) (tx:Int) (o:Opr) (ps:List Int) (hpre:ps.length<=1000):FunOK Tryz.prog 79 4 [] [(0,kI kind),(1,kI tx),(2,kOp o),(3,k1 (sI ps))] (·=[(4,k1 (oMsgs (toldF kind tx o ps)))]):=by
 refine fun_to (E:=⟨tab,ctOf [],28,[],[(0,[0,1,3,6,9,18,23,24,25]),(1,[0,1,3,6,9,18,23,24,25]),(2,[0,1,3,6,9,12,13,14,18,23,24,25]),(3,[0,1,3,6,9,12,13,14,15,18,23,24,25]),(4,[0,1,3,6,9,11,12,13,14,18,23,24,25]),(5,[0,1,3,6,9,12,13,14,18,23,24,25]),(6,[0,1,3,6,9,12,13,14,18,23,24,25]),(7,[8,9,18,23,24,25,27])],[(0,⟨List Msg×Nat,fun x=>[(0,(k1 (.n .i64 kind))),(1,(k1 (.n .i64 tx))),(3,(k1 (.sh 3 (typ (0:Int) eI ps)))),(6,⟨.box,[.c (.n .i64 o.kind),.c (.n .i64 o.who),.c (.n .i64 o.inn),.c (.n .i64 o.code),.c (.n .i64 o.sec),.c (.n .i64 o.fam),.c (.n .i64 o.gen)],[]⟩),(9,(k1 (oMsgs (x.1)))),(12,(k1 (.sh 3 (typ (0:Int) eI ps)))),(13,(k1 (.n .i64 ((↑ps.length:Int))))),(14,(k1 (.n .i64 (x.2:Int))))]⟩)],[(5,[(1000000,[])]),(7,[(1000000,[])])],[],[]⟩) tab_ok mixed Tryz.func79 rfl Tryz.ntmps79 (rvs:=[.tmp 8]) Tryz.results79 rfl fun hl=>?_
 refine cast (show (let k_1:Prop:=o.kind=o.kind/\o.who=o.who/\o.inn=o.inn/\o.code=o.code/\o.sec=o.sec/\o.fam=o.fam/\o.gen=o.gen;∃ (pre:List Msg×Nat->Prop),∃ (μ:List Msg×Nat->Nat),∃ (x0:List Msg×Nat),(kind=kind/\tx=tx/\q_I ps ps/\k_1/\x0.1.length=n_0/\q_I ps ps/\zi ps.length=zi ps.length/\i_0=zi x0.2)/\pre x0/\(∀ (x:List Msg×Nat),pre x->(decide (zi x.2<zi ps.length)=true->(i_0<=zi x.2/\zi x.2<zi ps.length)/\(x.1.length+n_1)*n_88<=n_140737488355328/\(∃ (y:List Msg×Nat),(kind=kind/\tx=tx/\q_I ps ps/\k_1/\cnRs (appR (typ dMsg eMsg x.1) (raw [[cn_ kind,cn_ (g_Int ps x.2),cn_ i_0,cn_ tx,cn_ o.kind,cn_ o.who,cn_ o.inn,cn_ o.code,cn_ o.sec,cn_ o.fam,cn_ o.gen]]))=t_g y.1/\q_I ps ps/\zi ps.length=zi ps.length/\wr_ ((zi x.2)+i_1)=zi y.2)/\pre y/\μ y<μ x))/\(decide (zi x.2<zi ps.length)=false->q_g x.1 (toldF kind tx o ps))))=_ by kernel_rfl) ?_
 delta i_0 i_1 wr_ g_Int zi t_I q_I n_0 n_140737488355328 n_1 cn_ t_g q_g n_88
 simp only [zza,zzb,true_and,and_true,and_self,ne_eq,cI_app,cWrtO_app,cWrtS_app,cWrtO_1,cItemO_1,opr_ex,zcast,frz_nil,nil_map,Option.getD_none,Option.getD_some]
 refine ⟨fun x=>x.2<=ps.length/\x.1=toldF kind tx o (ps.take x.2),fun x=>ps.length-x.2,[],rfl,⟨by omega,rfl⟩,fun a i hp=>?_⟩
 obtain ⟨h1,h2⟩:=hp
 simp only at h1 h2
 subst h2
 refine ⟨fun hlt=>⟨by omega,hlt,by simp only [toldF,List.length_map,List.length_take];omega,toldF kind tx o (ps.take (i+1)),?_,i+1,wrapN (by omega),⟨by simp only;omega,rfl⟩,by simp only;omega⟩,fun hge=>?_⟩
 ·rw [take_succ (d:=0) (by omega)]
  simp [toldF]
 ·have:i=ps.length:=by omega
  rw [this,List.take_length]
def impl_told_c:Con Tryz.prog:=conP [.lend,.lend,.lend,.lend] fun (b:Int×Int×Opr×List Int) h=>impl_told_ok (b.1) (b.2.1) (b.2.2.1) (b.2.2.2) h
theorem impl_FroState_begin_ok (f:Front) (tx:Int) (o:Opr) (hpre:smallF f):FunOK Tryz.prog 96 3 [0] [(0,⟨.box,cKFrontO f,[]⟩),(1,kI tx),(2,kOp o)] (·=[(3,⟨.tup [(false,1),(false,1)],[.c (oMsgs (beginF f tx o).2.1),.c (.b (beginF f tx o).2.2)],[]⟩),(0,⟨.box,cKFrontO (beginF f tx o).1,[]⟩)]):=by
 refine fun_to (E:=⟨tab,ctOf [impl_OpPlaces_c,impl_of_c,impl_told_c,impl_FroState_find_c],78,[0],[(0,[0,1,5,77]),(1,[0,1,5,8,77]),(2,[0,1,5,60,77]),(3,[0,6,7,77]),(4,[0,1,5]),(5,[0,6,7,77])],[],[],[],[]⟩) tab_ok mixed Tryz.func96 rfl Tryz.ntmps96 (rvs:=[.tmp 6,.tmp 7]) Tryz.results96 rfl fun hl=>?_
 refine cast (show (let k_2:Prop:=(beginF f tx o).2.1.length=n_0/\false=(beginF f tx o).2.2;let k_1:Prop:=((∀ (k:Nat),True/\True/\True/\True/\True/\True/\True/\True/\True/\True/\True/\True)/\True)/\True;∃ (b:Front×Int),let k_6:Prop:=b.1.disk.safe=(beginF f tx o).1.disk.safe;let k_5:Prop:=q_f b.1.disk.notes (beginF f tx o).1.disk.notes;let k_4:Prop:=k_2/\k_5/\k_6/\q_j b.1.way (beginF f tx o).1.way;let k_3:Prop:=(decide (wr_ (wr_ ((zi b.1.disk.notes.length)+wr_ (i_2*(zi b.1.way.length)))+i_2)>i_120)=true->k_4)/\(decide (wr_ (wr_ ((zi b.1.disk.notes.length)+wr_ (i_2*(zi b.1.way.length)))+i_2)>i_120)=false->(b.1.way.length+n_1)*n_120<=n_140737488355328/\(∃ (b_2:Opr),(o.kind=b_2.kind/\o.who=b_2.who/\o.inn=b_2.inn/\o.code=b_2.code/\o.sec=b_2.sec/\o.fam=b_2.fam/\o.gen=b_2.gen)/\(∃ (b_3:y_20),(i_1=b_3.1/\tx=b_3.2.1/\(o.kind=b_3.2.2.1.kind/\o.who=b_3.2.2.1.who/\o.inn=b_3.2.2.1.inn/\o.code=b_3.2.2.1.code/\o.sec=b_3.2.2.1.sec/\o.fam=b_3.2.2.1.fam/\o.gen=b_3.2.2.1.gen)/\cnRs (frozenRs (typ i_0 eI (placesL b_2)))=t_I b_3.2.2.2)/\b_3.2.2.2.length<=n_1000/\k_1/\(q_g (toldF b_3.1 b_3.2.1 b_3.2.2.1 b_3.2.2.2) (beginF f tx o).2.1/\true=(beginF f tx o).2.2)/\k_5/\k_6/\cnRs (appR (typ dFTx eFTxO b.1.way) (raw [[cn_ tx,cn_ o.kind,cn_ o.who,cn_ o.inn,cn_ o.code,cn_ o.sec,cn_ o.fam,cn_ o.gen,CV.b false,CV.ow n_3 nilR,CV.ow n_3 nilR]]))=t_j (beginF f tx o).1.way)));((q_f f.disk.notes b.1.disk.notes/\f.disk.safe=b.1.disk.safe/\q_j f.way b.1.way)/\tx=b.2)/\(decide (atF b.1.way b.2≥i_0)=false->∃ (b_1:Disk×Int),((cnRs (frozenRs (typ dNote eNoteO b.1.disk.notes))=t_e b_1.1.notes/\b.1.disk.safe=b_1.1.safe)/\tx=b_1.2)/\((ofN b_1.1.notes b_1.2 != i_0)=false->(decide (wr_ ((zi f.way.length)-i_1)≥i_0)=true->(i_0<=wr_ ((zi f.way.length)-i_1)/\wr_ ((zi f.way.length)-i_1)<zi b.1.way.length)/\(wr_ ((zi f.way.length)-i_1)).toNat<b.1.way.length/\(decide ((b.1.way.getD (wr_ ((zi f.way.length)-i_1)).toNat dFTx).tx>tx)=false->k_3)/\(decide ((b.1.way.getD (wr_ ((zi f.way.length)-i_1)).toNat dFTx).tx>tx)=true->k_4))/\(decide (wr_ ((zi f.way.length)-i_1)≥i_0)=false->k_3))/\((ofN b_1.1.notes b_1.2 != i_0)=true->k_4))/\(decide (atF b.1.way b.2≥i_0)=true->k_4))=_ by kernel_rfl) ?_
 delta i_0 i_1 i_2 wr_ zi t_I n_0 n_140737488355328 n_1 n_3 n_1000 cn_ t_e i_120 t_f q_f t_g q_g n_120 y_20 t_j q_j
 simp only [zza,zzb,true_and,and_true,and_self,ne_eq,cI_app,cWrtO_app,cWrtS_app,cWrtO_1,cItemO_1,opr_ex,zcast,frz_nil,nil_map,Option.getD_none,Option.getD_some]
 obtain ⟨⟨q1,_⟩,q2,_⟩:=hpre
 have w1:IntKind.i64.wrap ((f.way.length:Int)-1)=(f.way.length:Int)-1:=IntWalk.i64_in _ (by omega)
 have w2:IntKind.i64.wrap (IntKind.i64.wrap ((f.disk.notes.length:Int)+IntKind.i64.wrap (2*(f.way.length:Int)))+2)=(f.disk.notes.length:Int)+2*f.way.length+2:=by
  rw [IntWalk.i64_in (2*(f.way.length:Int)) (by omega),IntWalk.i64_in ((f.disk.notes.length:Int)+2*(f.way.length:Int)) (by omega),IntWalk.i64_in _ (by omega)]
 rw [w1,w2,show ((f.way.length:Int)-1).toNat=f.way.length-1 by omega]
 have no:noBegin f tx->(beginF f tx o).2.1.length=0/\false=(beginF f tx o).2.2/\f.disk.notes=(beginF f tx o).1.disk.notes/\f.disk.safe=(beginF f tx o).1.disk.safe/\f.way=(beginF f tx o).1.way:=fun h=>by
  rw [beginF,if_pos h];exact ⟨rfl,rfl,rfl,rfl,rfl⟩
 have yes:=fun h:¬ noBegin f tx=>show (f.way.length+1)*120<=140737488355328/\(placesL o).length<=1000/\toldF 1 tx o (placesL o)=(beginF f tx o).2.1/\true=(beginF f tx o).2.2/\f.disk.notes=(beginF f tx o).1.disk.notes/\f.disk.safe=(beginF f tx o).1.disk.safe /\
   cnRs (appR (typ dFTx eFTxO f.way) (raw [[CV.n .i64 tx,CV.n .i64 o.kind,CV.n .i64 o.who,CV.n .i64 o.inn,CV.n .i64 o.code,CV.n .i64 o.sec,CV.n .i64 o.fam,CV.n .i64 o.gen,CV.b false,CV.ow 3 nilR,CV.ow 3 nilR]]))=List.map nFTxO (beginF f tx o).1.way by
  have:=places_len3 o
  rw [beginF,if_neg h]
  refine ⟨by omega,by omega,told_send (.inl rfl),rfl,rfl,rfl,?_⟩
  simp
 refine ⟨fun h1=>⟨fun h2=>?_,fun h2=>no (.inr (.inl h2))⟩,fun h1=>no (.inl h1)⟩
 have h2:ofN f.disk.notes tx=0:=by simpa using h2
 refine ⟨fun h3=>⟨by omega,by omega,by omega,fun h4=>⟨fun h5=>no (.inr (.inr (.inr (by omega)))),fun h5=>yes ?_⟩,fun h4=>no (.inr (.inr (.inl ⟨by omega,h4⟩)))⟩,fun h3=>⟨fun h5=>no (.inr (.inr (.inr (by omega)))),fun h5=>yes ?_⟩⟩
 ·rintro (h | h | h | h)
  ·exact h1 h
  ·exact h h2
  ·exact h4 h.2
  ·omega
 ·rintro (h | h | h | h)
  ·exact h1 h
  ·exact h h2
  ·omega
  ·omega
def impl_FroState_begin_c:Con Tryz.prog:=conP [.ptr,.lend,.lend] fun (b:Front×Int×Opr) h=>impl_FroState_begin_ok (b.1) (b.2.1) (b.2.2) h
def begB (f:Front) (tx:Int) (o:Opr):Front×List Msg×Bool:=if (froB f&&inR tx 0 29&&opOk o)=true then beginF f tx o else (⟨⟨[],0⟩,[]⟩,[],false)
theorem impl_FroBegin_ok (f:Front) (tx:Int) (o:Opr):FunOK Tryz.prog 42 3 [] [(0,kFrontS f),(1,kI tx),(2,kOp o)] (·=[(3,⟨.tup [(true,3),(false,1),(false,1)],[.c (oNotes (begB f tx o).1.disk.notes),.c (.n .i64 (begB f tx o).1.disk.safe),.c (oFTxs (begB f tx o).1.way),.c (oMsgs (begB f tx o).2.1),.c (.b (begB f tx o).2.2)],[]⟩)]):=by
 refine fun_to (E:=⟨tab,ctOf [impl_FroOk_c,impl_isTx_c,impl_OpOk_c,impl_FroState_copied_c,impl_FroState_begin_c],37,[],[(0,[1,3,5,6,9,10,25,28,31,32,34,35]),(1,[1,3,5,6,9,10,24,25,28,31,32,34,35]),(2,[6,7,8,9,10,25,28,31,32,34,35]),(3,[1,5,6,9,25,34]),(4,[6,9,10,11,25,28,31,32,34]),(5,[6,7,8,9,10,25,28,31,32,34,35])],[],[(5,[(1000001,[])])],[],[]⟩) tab_ok mixed Tryz.func42 rfl Tryz.ntmps42 (rvs:=[.cell 6 28,.tmp 7,.tmp 8]) Tryz.results42 rfl fun hl=>?_
 refine cast (show (let k_1:Prop:=cnRs nilR=t_f (begB f tx o).1.disk.notes/\i_0=(begB f tx o).1.disk.safe/\cnRs nilR=t_j (begB f tx o).1.way/\(begB f tx o).2.1.length=n_0/\false=(begB f tx o).2.2;∃ (b:Front),(q_e f.disk.notes b.disk.notes/\f.disk.safe=b.disk.safe/\q_h f.way b.way)/\((!froB b)=false->∃ (b:Opr),(o.kind=b.kind/\o.who=b.who/\o.inn=b.inn/\o.code=b.code/\o.sec=b.sec/\o.fam=b.fam/\o.gen=b.gen)/\((!opOk b)=false->∃ (b:Int),tx=b/\((!inR b i_0 i_29)=true->k_1)/\((!inR b i_0 i_29)=false->∃ (b:Front),(q_e f.disk.notes b.disk.notes/\f.disk.safe=b.disk.safe/\q_h f.way b.way)/\smallF b/\(∃ (b_1:Front×Int×Opr),((q_f b.disk.notes b_1.1.disk.notes/\b.disk.safe=b_1.1.disk.safe/\q_j b.way b_1.1.way)/\tx=b_1.2.1/\o.kind=b_1.2.2.kind/\o.who=b_1.2.2.who/\o.inn=b_1.2.2.inn/\o.code=b_1.2.2.code/\o.sec=b_1.2.2.sec/\o.fam=b_1.2.2.fam/\o.gen=b_1.2.2.gen)/\smallF b_1.1/\q_f (beginF b_1.1 b_1.2.1 b_1.2.2).1.disk.notes (begB f tx o).1.disk.notes/\(beginF b_1.1 b_1.2.1 b_1.2.2).1.disk.safe=(begB f tx o).1.disk.safe/\q_j (beginF b_1.1 b_1.2.1 b_1.2.2).1.way (begB f tx o).1.way/\q_g (beginF b_1.1 b_1.2.1 b_1.2.2).2.1 (begB f tx o).2.1/\(beginF b_1.1 b_1.2.1 b_1.2.2).2.2=(begB f tx o).2.2)))/\((!opOk b)=true->k_1))/\((!froB b)=true->k_1))=_ by kernel_rfl) ?_
 delta i_0 n_0 i_29 t_e q_e t_f q_f t_g q_g t_h q_h t_j q_j
 simp only [zza,zzb,true_and,and_true,and_self,ne_eq,cI_app,cWrtO_app,cWrtS_app,cWrtO_1,cItemO_1,opr_ex,zcast,frz_nil,nil_map,Option.getD_none,Option.getD_some]
 have no:(froB f&&inR tx 0 29&&opOk o)=false->[]=(begB f tx o).1.disk.notes/\0=(begB f tx o).1.disk.safe/\[]=(begB f tx o).1.way/\(begB f tx o).2.1.length=0/\false=(begB f tx o).2.2:=fun h=>by
  simp only [begB,h];exact ⟨rfl,rfl,rfl,rfl,rfl⟩
 refine ⟨fun h1=>⟨fun h2=>⟨fun h3=>?_,fun h3=>?_⟩,fun h2=>?_⟩,fun h1=>?_⟩
 ·exact no (by simp at h3;simp [h3])
 ·simp only [Bool.not_eq_false'] at h1 h2 h3
  have e:begB f tx o=beginF f tx o:=by simp only [begB,h1,h2,h3,Bool.and_self,if_true]
  rw [e]
  exact ⟨(froB_iff.1 h1).small,(froB_iff.1 h1).small,rfl,rfl,rfl,rfl,rfl⟩
 ·exact no (by simp at h2;simp [h2])
 ·exact no (by simp at h1;simp [h1])
def impl_FroBegin_c:Con Tryz.prog:=con0 [.lend,.lend,.lend] fun b:Front×Int×Opr=>impl_FroBegin_ok (b.1) (b.2.1) (b.2.2)
end Go.Proofs.AI
namespace Go.Proofs.AI
open Go.RowKit Go.Proofs
set_option linter.unusedVariables false
set_option linter.unusedSimpArgs false
set_option maxRecDepth 100000
theorem impl_FroState_abort_ok (f:Front) (k:Nat) (hpre:k<f.way.length/\f.way.length<=1000):FunOK Tryz.prog 119 2 [0] [(0,⟨.box,cKFrontO f,[]⟩),(1,kI k)] (·=[(2,⟨.tup [(false,1),(false,1)],[.c (oMsgs (noF f k).2.1),.c (oFOuts (noF f k).2.2)],[]⟩),(0,⟨.box,cKFrontO (noF f k).1,[]⟩)]):=by
 refine fun_to (E:=⟨tab,ctOf [impl_OpPlaces_c,impl_told_c,delF_c],36,[0],[(0,[0,1]),(1,[0,1,6]),(2,[0,6]),(3,[0,4,5,31,34,35])],[],[],[],[]⟩) tab_ok mixed Tryz.func119 rfl Tryz.ntmps119 (rvs:=[.tmp 4,.tmp 5]) Tryz.results119 rfl fun hl=>?_
 refine cast (show ((i_0<=zi k/\zi k<zi f.way.length)/\(zi k).toNat<f.way.length/\∃ (b:List FTx×Nat),(q_j f.way b.1/\zi k=zi b.2/\wr_ ((zi k)+i_1)=(zi b.2)+i_1)/\b.2<b.1.length/\∃ (b_1:Opr),((g_FTx f.way k).op.kind=b_1.kind/\(g_FTx f.way k).op.who=b_1.who/\(g_FTx f.way k).op.inn=b_1.inn/\(g_FTx f.way k).op.code=b_1.code/\(g_FTx f.way k).op.sec=b_1.sec/\(g_FTx f.way k).op.fam=b_1.fam/\(g_FTx f.way k).op.gen=b_1.gen)/\∃ (b_2:y_20),(i_3=b_2.1/\(g_FTx f.way k).tx=b_2.2.1/\(i_0=b_2.2.2.1.kind/\i_0=b_2.2.2.1.who/\i_0=b_2.2.2.1.inn/\i_0=b_2.2.2.1.code/\i_0=b_2.2.2.1.sec/\i_0=b_2.2.2.1.fam/\i_0=b_2.2.2.1.gen)/\cnRs (frozenRs (typ i_0 eI (placesL b_1)))=t_I b_2.2.2.2)/\b_2.2.2.2.length<=n_1000/\(((∀ (k:Nat),True/\True/\True/\True/\True/\True/\True/\True/\True/\True/\True/\True)/\True)/\True)/\(q_g (toldF b_2.1 b_2.2.1 b_2.2.2.1 b_2.2.2.2) (noF f k).2.1/\cnRs (raw [[cn_ (g_FTx f.way k).tx,CV.b false]])=t_k (noF f k).2.2)/\q_f f.disk.notes (noF f k).1.disk.notes/\f.disk.safe=(noF f k).1.disk.safe/\q_j (b.1.eraseIdx b.2) (noF f k).1.way)=_ by kernel_rfl) ?_
 delta i_0 i_1 i_3 wr_ zi t_I n_1000 cn_ t_f q_f t_g q_g g_FTx y_20 t_j q_j t_k
 simp only [zza,zzb,true_and,and_true,and_self,ne_eq,cI_app,cWrtO_app,cWrtS_app,cWrtO_1,cItemO_1,opr_ex,zcast,frz_nil,nil_map,Option.getD_none,Option.getD_some]
 have h3:=places_len3 (f.way.getD k dFTx).op
 exact ⟨by omega,by omega,hpre.1,IntWalk.i64_in _ (by omega),hpre.1,by omega,told_send (.inr rfl),rfl,rfl,rfl,rfl⟩
def impl_FroState_abort_c:Con Tryz.prog:=conP [.ptr,.lend] fun (b:Front×Nat) h=>impl_FroState_abort_ok (b.1) (b.2) h
theorem impl_services_ok (u:Unit):FunOK Tryz.prog 81 0 [] [] (·=[(0,k1 (oI [1,2,3]))]):=by
 refine fun_to (E:=⟨tab,ctOf [],2,[],[(0,[]),(1,[0,1])],[],[],[],[]⟩) tab_ok mixed Tryz.func81 rfl Tryz.ntmps81 (rvs:=[.tmp 0]) Tryz.results81 rfl fun hl=>?_
 refine cast (show (cnRs (typ i_0 (fun (y:Int)=>[cn_ y]) [i_1,i_2,i_3])=t_I [i_1,i_2,i_3])=_ by kernel_rfl) ?_
 delta i_0 i_1 i_2 i_3 t_I cn_
 simp only [zza,zzb,true_and,and_true,and_self,ne_eq,cI_app,cWrtO_app,cWrtS_app,cWrtO_1,cItemO_1,opr_ex,zcast,frz_nil,nil_map,Option.getD_none,Option.getD_some]
 done
def impl_services_c:Con Tryz.prog:=con0 [] fun b:Unit=>impl_services_ok b
theorem places_pos {o:Opr} (h:opOk o=true):0<(placesL o).length:=by
 simp only [placesL,h]
 repeat' split
 all_goals simp_all
end Go.Proofs.AI
namespace Go.Proofs.AI
open Go.RowKit Go.Proofs
set_option linter.unusedVariables false
set_option linter.unusedSimpArgs false
set_option maxRecDepth 100000
theorem CanNot_ok (x:Int) (t:FTx):FunOK Tryz.prog 175 2 [] [(0,kI x),(1,k1 (.rp [.rp (eFTxS t)]))] (·=[(2,kB (!(t.can.any fun y=>x==y)))]):=by
 refine fun_to (E:=⟨tab,ctOf [ContainsInt_c],11,[],[(0,[0,1]),(1,[3])],[],[],[],[]⟩) tab_ok mixed Tryz.func175 rfl Tryz.ntmps175 (rvs:=[.tmp 3]) Tryz.results175 rfl fun hl=>?_
 refine cast (show (∃ (b:List Int×Int),(q_I t.can b.1/\x=b.2)/\(!b.1.any fun (x:Int)=>b.2==x)=!t.can.any fun (y:Int)=>x==y)=_ by kernel_rfl) ?_
 delta t_I q_I
 simp only [zza,zzb,true_and,and_true,and_self,ne_eq,cI_app,cWrtO_app,cWrtS_app,cWrtO_1,cItemO_1,opr_ex,zcast,frz_nil,nil_map,wayEq_self,Option.getD_none,Option.getD_some]
 done
def CanNot_c:Con Tryz.prog:=con0 [.lend] fun b:Int×FTx=>CanNot_ok (b.1) (b.2)
theorem IndexNot_ok (xs:List Int) (t:FTx):FunOK Tryz.prog 168 2 [] [(0,k1 (sI xs)),(1,k1 (.fn 175 [.rp [.rp (eFTxS t)]]))] (·=[(2,kI (idxOf (fun x=>!(t.can.any fun y=>x==y)) xs))]):=by
 refine fun_to (E:=⟨tab,ctOf [CanNot_c],19,[],[(0,[0,1]),(1,[0,1,7,8]),(2,[0,1,7,8,9]),(3,[0,1,5,7,8]),(4,[0,1,5,7,8,16]),(5,[4]),(6,[0,1,7,8]),(7,[4])],[(0,⟨Nat,fun x=>[(0,(k1 (.sh 3 (typ (0:Int) eI xs)))),(1,(k1 (.fn 175 ([CV.rp [CV.rp [CV.n .i64 t.tx,CV.n .i64 t.op.kind,CV.n .i64 t.op.who,CV.n .i64 t.op.inn,CV.n .i64 t.op.code,CV.n .i64 t.op.sec,CV.n .i64 t.op.fam,CV.n .i64 t.op.gen,CV.b t.yes,CV.sh (3:Nat) (typ (0:Int) eI t.can),CV.sh (3:Nat) (typ (0:Int) eI t.know)]]])))),(7,(k1 (.n .i64 ((↑xs.length:Int))))),(8,(k1 (.n .i64 (x:Int))))]⟩)],[],[],[]⟩) tab_ok mixed Tryz.func168 rfl Tryz.ntmps168 (rvs:=[.tmp 4]) Tryz.results168 rfl fun hl=>?_
 refine cast (show (∃ (pre:Nat->Prop),∃ (μ:Nat->Nat),∃ (x0:Nat),(q_I xs xs/\cnR [CV.rp [CV.rp [cn_ t.tx,cn_ t.op.kind,cn_ t.op.who,cn_ t.op.inn,cn_ t.op.code,cn_ t.op.sec,cn_ t.op.fam,cn_ t.op.gen,CV.b t.yes,CV.sh n_3 (typ i_0 eI t.can),CV.sh n_3 (typ i_0 eI t.know)]]]=cnR [CV.rp [CV.rp [cn_ t.tx,cn_ t.op.kind,cn_ t.op.who,cn_ t.op.inn,cn_ t.op.code,cn_ t.op.sec,cn_ t.op.fam,cn_ t.op.gen,CV.b t.yes,CV.sh n_3 (typ i_0 eI t.can),CV.sh n_3 (typ i_0 eI t.know)]]]/\zi xs.length=zi xs.length/\i_0=zi x0)/\pre x0/\∀ (x:Nat),pre x->(decide (zi x<zi xs.length)=true->(i_0<=zi x/\zi x<zi xs.length)/\∃ (b:Int×FTx),(g_Int xs x=b.1/\cnR [CV.rp [cn_ t.tx,cn_ t.op.kind,cn_ t.op.who,cn_ t.op.inn,cn_ t.op.code,cn_ t.op.sec,cn_ t.op.fam,cn_ t.op.gen,CV.b t.yes,CV.sh n_3 (typ i_0 eI t.can),CV.sh n_3 (typ i_0 eI t.know)]]=cnR [CV.rp [cn_ b.2.tx,cn_ b.2.op.kind,cn_ b.2.op.who,cn_ b.2.op.inn,cn_ b.2.op.code,cn_ b.2.op.sec,cn_ b.2.op.fam,cn_ b.2.op.gen,CV.b b.2.yes,CV.sh n_3 (typ i_0 eI b.2.can),CV.sh n_3 (typ i_0 eI b.2.know)]])/\((!b.2.can.any fun (y:Int)=>b.1==y)=true->zi x=idxOf (fun (x:Int)=>!t.can.any fun (y:Int)=>x==y) xs)/\((!b.2.can.any fun (y:Int)=>b.1==y)=false->∃ (y:Nat),(q_I xs xs/\cnR [CV.rp [CV.rp [cn_ t.tx,cn_ t.op.kind,cn_ t.op.who,cn_ t.op.inn,cn_ t.op.code,cn_ t.op.sec,cn_ t.op.fam,cn_ t.op.gen,CV.b t.yes,CV.sh n_3 (typ i_0 eI t.can),CV.sh n_3 (typ i_0 eI t.know)]]]=cnR [CV.rp [CV.rp [cn_ t.tx,cn_ t.op.kind,cn_ t.op.who,cn_ t.op.inn,cn_ t.op.code,cn_ t.op.sec,cn_ t.op.fam,cn_ t.op.gen,CV.b t.yes,CV.sh n_3 (typ i_0 eI t.can),CV.sh n_3 (typ i_0 eI t.know)]]]/\zi xs.length=zi xs.length/\wr_ ((zi x)+i_1)=zi y)/\pre y/\μ y<μ x))/\(decide (zi x<zi xs.length)=false->(-1:Int)=idxOf (fun (x:Int)=>!t.can.any fun (y:Int)=>x==y) xs))=_ by kernel_rfl) ?_
 delta i_0 i_1 wr_ g_Int zi t_I q_I n_3 cn_
 have hx:xs.length<=9223372036854775807:=hl.1 _ (List.mem_singleton.2 rfl)
 simp only [zza,zzb,true_and,and_true,and_self,ne_eq,cI_app,cWrtO_app,cWrtS_app,cWrtO_1,cItemO_1,opr_ex,zcast,frz_nil,nil_map,wayEq_self,Option.getD_none,Option.getD_some]
 have hp:∀ j,(xs.getD j 0 |> fun x=>!(t.can.any fun y=>x==y))=!(t.can.any fun y=>xs.getD j 0==y):=fun _=>rfl
 refine ⟨fun i=>i<=xs.length/\∀ j,j<i->(fun x=>!(t.can.any fun y=>x==y)) (xs.getD j 0)=false,⟨by simp,fun j hj=>absurd hj (Nat.not_lt_zero _)⟩,fun i=>xs.length-i,fun i hi=>?_⟩
 obtain ⟨h1,h2⟩:=hi
 refine ⟨fun hlt=>⟨by omega,by omega,t,rfl,fun hp=>?_,fun hp=>⟨i+1,wrapN (by omega),⟨by omega,below_succ h2 hp⟩,by simp only;omega⟩⟩,fun hge=>?_⟩
 ·exact (idx_hit (p:=fun x=>!(t.can.any fun y=>x==y)) (d:=0) (by omega) hp h2).symm
 ·exact (idx_miss (p:=fun x=>!(t.can.any fun y=>x==y)) (d:=0) fun j hj=>h2 j (by omega)).symm
def IndexNot_c:Con Tryz.prog:=con0 [.lend,.lend] fun b:List Int×FTx=>IndexNot_ok (b.1) (b.2)
theorem ContainsNot_ok (xs:List Int) (t:FTx):FunOK Tryz.prog 151 2 [] [(0,k1 (sI xs)),(1,k1 (.fn 175 [.rp [.rp (eFTxS t)]]))] (·=[(2,kB (xs.any fun x=>!(t.can.any fun y=>x==y)))]):=by
 refine fun_to (E:=⟨tab,ctOf [IndexVal_c],9,[],[(0,[0,1]),(1,[4])],[],[],[],[(1,[IndexNot_c])]⟩) tab_ok mixed Tryz.func151 rfl Tryz.ntmps151 (rvs:=[.tmp 4]) Tryz.results151 rfl fun hl=>?_
 refine cast (show (∃ (b:List Int×FTx),(q_I xs b.1/\cnR [CV.rp [CV.rp [cn_ t.tx,cn_ t.op.kind,cn_ t.op.who,cn_ t.op.inn,cn_ t.op.code,cn_ t.op.sec,cn_ t.op.fam,cn_ t.op.gen,CV.b t.yes,CV.sh n_3 (typ i_0 eI t.can),CV.sh n_3 (typ i_0 eI t.know)]]]=cnR [CV.rp [CV.rp [cn_ b.2.tx,cn_ b.2.op.kind,cn_ b.2.op.who,cn_ b.2.op.inn,cn_ b.2.op.code,cn_ b.2.op.sec,cn_ b.2.op.fam,cn_ b.2.op.gen,CV.b b.2.yes,CV.sh n_3 (typ i_0 eI b.2.can),CV.sh n_3 (typ i_0 eI b.2.know)]]])/\decide (idxOf (fun (x:Int)=>!b.2.can.any fun (y:Int)=>x==y) b.1≥i_0)=xs.any fun (x:Int)=>!t.can.any fun (y:Int)=>x==y)=_ by kernel_rfl) ?_
 delta i_0 t_I q_I n_3 cn_
 simp only [zza,zzb,true_and,and_true,and_self,ne_eq,cI_app,cWrtO_app,cWrtS_app,cWrtO_1,cItemO_1,opr_ex,zcast,frz_nil,nil_map,wayEq_self,Option.getD_none,Option.getD_some]
 exact ⟨t,rfl,idx_ge _ _⟩
def ContainsNot_c:Con Tryz.prog:=con0 [.lend,.lend] fun b:List Int×FTx=>ContainsNot_ok (b.1) (b.2)
theorem addD_eqF {d:Disk} {n:Note} {s:Bool} (hd:diskB d=true) (hn:noteB n=true):addD d n s=(addI d n s,!decide (d.notes.length=120)):=by
 simp only [addD,addI,hd,hn,Bool.and_self,if_true]
 split<;>simp_all
theorem less_any (l s:List Int):(l.any fun x=>!s.any fun y=>x==y)=decide (0<(lessP l s).length):=by
 rw [Bool.eq_iff_iff,decide_eq_true_iff]
 simp only [any_flipI]
 rw [List.any_eq_true,List.length_pos_iff_exists_mem]
 simp [lessP,List.mem_filter]
theorem small2 (k tx:Int):smallN ⟨k,tx,[],[]⟩:=⟨by simp,by simp,fun w hw=>by simp at hw⟩
def addP_c:Con Tryz.prog:={ impl_LogDisk_add_c with mds:=[.part 2,.lend,.lend] }
theorem impl_FroState_can_ok (f:Front) (k:Nat) (p:Int) (hpre:okF f/\k<f.way.length/\1<=p/\p<=3):FunOK Tryz.prog 133 3 [0] [(0,⟨.box,cKFrontO f,[]⟩),(1,kI k),(2,kI p)] (·=[(3,⟨.tup [(false,1),(false,1)],[.c (oMsgs (canF f k p).2.1),.c (oFOuts (canF f k p).2.2)],[]⟩),(0,⟨.box,cKFrontO (canF f k p).1,[]⟩)]):=by
 refine fun_to (E:=⟨tab,ctOf [impl_OpPlaces_c,impl_told_c,impl_services_c,impl_FroState_abort_c,ContainsVal_c,impl_put_c,impl_LogDisk_add_c],62,[0],[(0,[0,1,2,43,44,45,55,60,61]),(1,[0,1,2,8,43,44,45,55,60,61]),(2,[0,1,8,43,44,45,55,60,61]),(3,[0,1,8,30,43,44,45,55,60,61]),(4,[0,6,7,43,44,45,55,60,61]),(5,[0,1,8,40,43,44,45,55,60,61]),(6,[0,6,7,43,44,45,55,60,61]),(7,[0,8,43,44,45]),(8,[0,6,7,43,44,45,55,60,61])],[],[(2,[(1000006,[])])],[(2,⟨List FTx,fun x=>[(0,⟨.box,[.c (.ow 72 (typ dNote eNoteO f.disk.notes)),.c (.n .i64 f.disk.safe),.c (oFTxs (x))],[]⟩),(1,(k1 (.n .i64 ((↑k:Int))))),(8,⟨.box,[SC.p (36:Nat) (0:Nat) (2:Nat) [] (0:Nat) (↑k:Int).toNat (0:Nat)],[]⟩)]⟩)],[(3,[ContainsNot_c]),(5,[addP_c])]⟩) tab_ok mixed Tryz.func133 rfl Tryz.ntmps133 (rvs:=[.tmp 6,.tmp 7]) Tryz.results133 rfl fun hl=>?_
 refine cast (show (let k_1:Prop:=(zi k).toNat<f.way.length;(i_0<=zi k/\zi k<zi f.way.length)/\(∃ (post:List FTx->Prop),(k_1/\k_1/\(∃ (b:List Int×Int),(q_I (g_FTx f.way k).can b.1/\p=b.2)/\(ris3 b.1/\i_1<=b.2/\b.2<=i_3)/\k_1/\(∃ (x:List FTx),((q_f f.disk.notes f.disk.notes/\f.disk.safe=f.disk.safe/\cnRs (setF (setF (typ dFTx eFTxO f.way) (zi k).toNat n_9 CV.any) (zi k).toNat n_9 (CV.ow n_3 (typ i_0 eI (putP b.1 b.2))))=t_j x)/\zi k=zi k/\n_36=n_36/\n_0=n_0/\n_2=n_2/\wayEq [] []/\(zi k).toNat=(zi k).toNat/\n_0=n_0/\true=true)/\post x)))/\(∀ (x:List FTx),post x->(zi k).toNat<x.length/\(∃ (b:Opr),((g_FTx x k).op.kind=b.kind/\(g_FTx x k).op.who=b.who/\(g_FTx x k).op.inn=b.inn/\(g_FTx x k).op.code=b.code/\(g_FTx x k).op.sec=b.sec/\(g_FTx x k).op.fam=b.fam/\(g_FTx x k).op.gen=b.gen)/\((True/\(zi k).toNat<x.length)/\True)/\(∃ (b_1:List Int×FTx),(cnRs (frozenRs (typ i_0 eI (placesL b)))=t_I b_1.1/\cnR [CV.rp [CV.rp [cn_ (g_FTx x k).tx,cn_ (g_FTx x k).op.kind,cn_ (g_FTx x k).op.who,cn_ (g_FTx x k).op.inn,cn_ (g_FTx x k).op.code,cn_ (g_FTx x k).op.sec,cn_ (g_FTx x k).op.fam,cn_ (g_FTx x k).op.gen,CV.b (g_FTx x k).yes,CV.sh n_3 (frozenRs (typ i_0 eI (g_FTx x k).can)),CV.sh n_3 (frozenRs (typ i_0 eI (g_FTx x k).know))]]]=cnR [CV.rp [CV.rp [cn_ b_1.2.tx,cn_ b_1.2.op.kind,cn_ b_1.2.op.who,cn_ b_1.2.op.inn,cn_ b_1.2.op.code,cn_ b_1.2.op.sec,cn_ b_1.2.op.fam,cn_ b_1.2.op.gen,CV.b b_1.2.yes,CV.sh n_3 (typ i_0 eI b_1.2.can),CV.sh n_3 (typ i_0 eI b_1.2.know)]]])/\((b_1.1.any fun (x:Int)=>!b_1.2.can.any fun (y:Int)=>x==y)=true->((canF f k p).2.1.length=n_0/\(canF f k p).2.2.length=n_0)/\q_f f.disk.notes (canF f k p).1.disk.notes/\f.disk.safe=(canF f k p).1.disk.safe/\q_j x (canF f k p).1.way)/\((b_1.1.any fun (x:Int)=>!b_1.2.can.any fun (y:Int)=>x==y)=false->(zi k).toNat<x.length/\(∃ (b:y_18),((q_f f.disk.notes b.1.notes/\f.disk.safe=b.1.safe)/\(i_2=b.2.1.kind/\(g_FTx x k).tx=b.2.1.tx/\cnRs (frozenRs nilR)=t_S b.2.1.locks/\cnRs (frozenRs nilR)=t_c b.2.1.writes)/\true=b.2.2)/\(smallN b.2.1/\b.1.notes.length<=n_1000)/\((True/\True)/\((∀ (k:Nat),True/\True/\(∀ (k:Nat),True/\True)/\(∀ (k:Nat),True/\True/\(∀ (k:Nat),True/\True)/\True)/\True)/\True/\True)/\True)/\((!!decide (b.1.notes.length=n_120))=true->∃ (b_2:Front×Nat),((q_f (addI b.1 b.2.1 b.2.2).notes b_2.1.disk.notes/\(addI b.1 b.2.1 b.2.2).safe=b_2.1.disk.safe/\q_j x b_2.1.way)/\zi k=zi b_2.2)/\(b_2.2<b_2.1.way.length/\b_2.1.way.length<=n_1000)/\(q_g (noF b_2.1 b_2.2).2.1 (canF f k p).2.1/\q_k (noF b_2.1 b_2.2).2.2 (canF f k p).2.2)/\q_f (noF b_2.1 b_2.2).1.disk.notes (canF f k p).1.disk.notes/\(noF b_2.1 b_2.2).1.disk.safe=(canF f k p).1.disk.safe/\q_j (noF b_2.1 b_2.2).1.way (canF f k p).1.way)/\((!!decide (b.1.notes.length=n_120))=false->(zi k).toNat<x.length/\(zi k).toNat<x.length/\(∃ (b_2:Unit),True/\(∃ (b_3:y_20),(i_2=b_3.1/\(g_FTx x k).tx=b_3.2.1/\(i_0=b_3.2.2.1.kind/\i_0=b_3.2.2.1.who/\i_0=b_3.2.2.1.inn/\i_0=b_3.2.2.1.code/\i_0=b_3.2.2.1.sec/\i_0=b_3.2.2.1.fam/\i_0=b_3.2.2.1.gen)/\cnRs (frozenRs (typ i_0 eI [i_1,i_2,i_3]))=t_I b_3.2.2.2)/\b_3.2.2.2.length<=n_1000/\(((∀ (k:Nat),True/\True/\True/\True/\True/\True/\True/\True/\True/\True/\True/\True)/\True)/\True)/\(zi k).toNat<x.length/\(q_g (toldF b_3.1 b_3.2.1 b_3.2.2.1 b_3.2.2.2) (canF f k p).2.1/\cnRs (raw [[cn_ (g_FTx x k).tx,CV.b true]])=t_k (canF f k p).2.2)/\q_f (addI b.1 b.2.1 b.2.2).notes (canF f k p).1.disk.notes/\(addI b.1 b.2.1 b.2.2).safe=(canF f k p).1.disk.safe/\cnRs (setF (typ dFTx eFTxO x) (zi k).toNat n_8 (CV.b true))=t_j (canF f k p).1.way))))))))))=_ by kernel_rfl) ?_
 delta i_0 i_1 i_2 i_3 zi t_I q_I n_0 n_8 n_3 t_c n_1000 cn_ t_S n_2 t_f q_f n_9 t_g q_g y_18 n_120 g_FTx y_20 t_j q_j t_k q_k n_36
 simp only [zza,zzb,true_and,and_true,and_self,ne_eq,cI_app,cWrtO_app,cWrtS_app,cWrtO_1,cItemO_1,opr_ex,zcast,frz_nil,nil_map,wayEq_self,Option.getD_none,Option.getD_some]
 obtain ⟨hf,hk,hp1,hp2⟩:=hpre
 have hT:=hf.at_ hk
 have hn:=note_yes (k:=2) (.inl rfl) hT.tx
 have hadd:=addD_eqF (s:=true) hf.fd hn
 have hl0:=(diskB_small hf.fd).2.1
 have hw:=hf.wl
 refine ⟨by omega,by omega,hk,hk,hT.can,hp1,hp2,hk,fun z=>z=f.way.set k (canT (f.way.getD k dFTx) p),⟨_,by rw [setF_setF,cSetTO _ _ _ _ (canT (f.way.getD k dFTx) p) (by simp [canT])],rfl⟩,fun z hz=>?_⟩
 subst hz
 have hg:=getD_set_eq f.way hk (canT (f.way.getD k dFTx) p) dFTx
 have hy:=cSetTO (f.way.set k (canT (f.way.getD k dFTx) p)) k 8 (.b true) (yesT (canT (f.way.getD k dFTx) p)) (by rw [hg];simp [yesT])
 rw [hg,List.length_set,hy,List.set_set]
 simp only [canF,hadd]
 generalize f.way.getD k dFTx=T at *
 refine ⟨hk,hk,canT T p,rfl,fun e1=>?_,fun e1=>⟨hk,small2 _ _,by omega,fun e2=>?_,fun e2=>?_⟩⟩
 ·rw [less_any] at e1
  have h:0<(lessP (placesL T.op) (putP T.can p)).length:=of_decide_eq_true e1
  rw [if_pos h];exact ⟨rfl,rfl,rfl,rfl,rfl⟩
 ·rw [less_any] at e1
  have h:¬ 0<(lessP (placesL T.op) (putP T.can p)).length:=of_decide_eq_false e1
  have hl:f.disk.notes.length=120:=by simpa using e2
  have ha:∀ n,addI f.disk n true=f.disk:=fun n=>by simp [addI,hl]
  rw [if_neg h,if_neg (by rw [hl];decide),ha];exact ⟨hk,by omega,rfl,rfl,rfl,rfl,rfl⟩
 ·rw [less_any] at e1
  have h:¬ 0<(lessP (placesL T.op) (putP T.can p)).length:=of_decide_eq_false e1
  have hl:¬ f.disk.notes.length=120:=by simpa using e2
  rw [if_neg h,if_pos (by rw [decide_eq_false hl]<;>rfl)];exact ⟨hk,hk,by simp,hk,told_send (.inr rfl),rfl,rfl,rfl,(),rfl⟩
def impl_FroState_can_c:Con Tryz.prog:=conP [.ptr,.lend,.lend] fun (b:Front×Nat×Int) h=>impl_FroState_can_ok (b.1) (b.2.1) (b.2.2) h
theorem impl_FroState_know_ok (f:Front) (k:Nat) (p:Int) (hpre:okF f/\k<f.way.length/\1<=p/\p<=3):FunOK Tryz.prog 134 3 [0] [(0,⟨.box,cKFrontO f,[]⟩),(1,kI k),(2,kI p)] (·=[(3,⟨.tup [],[],[]⟩),(0,⟨.box,cKFrontO (knowF f k p),[]⟩)]):=by
 refine fun_to (E:=⟨tab,ctOf [impl_services_c,delF_c,impl_put_c,impl_LogDisk_add_c],52,[0],[(0,[0,1,2,6,7,8,9,10,11,12]),(1,[0,1,6,7,8,9,10,11,12]),(2,[0,1,40]),(3,[0])],[],[(1,[(1000006,[])]),(2,[(1000004,[])])],[(1,⟨List FTx,fun x=>[(0,⟨.box,[.c (.ow 72 (typ dNote eNoteO f.disk.notes)),.c (.n .i64 f.disk.safe),.c (oFTxs (x))],[]⟩),(1,(k1 (.n .i64 ((↑k:Int))))),(6,⟨.one,[SC.p (36:Nat) (0:Nat) (2:Nat) [] (0:Nat) (↑k:Int).toNat (0:Nat)],[]⟩)]⟩)],[(2,[addP_c])]⟩) tab_ok mixed Tryz.func134 rfl Tryz.ntmps134 (rvs:=[]) Tryz.results134 rfl fun hl=>?_
 refine cast (show (let k_1:Prop:=(zi k).toNat<f.way.length;(i_0<=zi k/\zi k<zi f.way.length)/\(∃ (post:List FTx->Prop),(k_1/\k_1/\(∃ (b:List Int×Int),(q_I (g_FTx f.way k).know b.1/\p=b.2)/\(ris3 b.1/\i_1<=b.2/\b.2<=i_3)/\k_1/\(∃ (x:List FTx),((q_f f.disk.notes f.disk.notes/\f.disk.safe=f.disk.safe/\cnRs (setF (setF (typ dFTx eFTxO f.way) (zi k).toNat n_10 CV.any) (zi k).toNat n_10 (CV.ow n_3 (typ i_0 eI (putP b.1 b.2))))=t_j x)/\zi k=zi k/\n_36=n_36/\n_0=n_0/\n_2=n_2/\wayEq [] []/\(zi k).toNat=(zi k).toNat/\n_0=n_0/\true=true)/\post x)))/\(∀ (x:List FTx),post x->(zi k).toNat<x.length/\(zi k).toNat<x.length/\(∃ (b:Unit),True/\(((zi (g_FTx x k).know.length)==zi n_3)=true->(zi k).toNat<x.length/\(∃ (b:y_18),let k_3:Prop:=(addI b.1 b.2.1 b.2.2).safe=(knowF f k p).disk.safe;let k_2:Prop:=q_f (addI b.1 b.2.1 b.2.2).notes (knowF f k p).disk.notes;((q_f f.disk.notes b.1.notes/\f.disk.safe=b.1.safe)/\(i_4=b.2.1.kind/\(g_FTx x k).tx=b.2.1.tx/\cnRs (frozenRs nilR)=t_S b.2.1.locks/\cnRs (frozenRs nilR)=t_c b.2.1.writes)/\false=b.2.2)/\(smallN b.2.1/\b.1.notes.length<=n_1000)/\((True/\True)/\((∀ (k:Nat),True/\True/\(∀ (k:Nat),True/\True)/\(∀ (k:Nat),True/\True/\(∀ (k:Nat),True/\True)/\True)/\True)/\True/\True)/\True)/\((!decide (b.1.notes.length=n_120))=true->∃ (b_1:List FTx×Nat),(q_j x b_1.1/\zi k=zi b_1.2/\wr_ ((zi k)+i_1)=(zi b_1.2)+i_1)/\b_1.2<b_1.1.length/\True/\k_2/\k_3/\q_j (b_1.1.eraseIdx b_1.2) (knowF f k p).way)/\((!decide (b.1.notes.length=n_120))=false->True/\k_2/\k_3/\q_j x (knowF f k p).way)))/\(((zi (g_FTx x k).know.length)==zi n_3)=false->True/\q_f f.disk.notes (knowF f k p).disk.notes/\f.disk.safe=(knowF f k p).disk.safe/\q_j x (knowF f k p).way)))))=_ by kernel_rfl) ?_
 delta i_0 i_1 i_3 i_4 wr_ zi t_I q_I n_0 n_3 t_c n_1000 t_S n_10 n_2 t_f q_f y_18 n_120 g_FTx t_j q_j n_36
 simp only [zza,zzb,true_and,and_true,and_self,ne_eq,cI_app,cWrtO_app,cWrtS_app,cWrtO_1,cItemO_1,opr_ex,zcast,frz_nil,nil_map,wayEq_self,Option.getD_none,Option.getD_some]
 obtain ⟨hf,hk,hp1,hp2⟩:=hpre
 have hT:=hf.at_ hk
 have hn:=note_yes (k:=4) (.inr (.inr rfl)) hT.tx
 have hadd:=addD_eqF (s:=false) hf.fd hn
 have hl0:=(diskB_small hf.fd).2.1
 have hw:=hf.wl
 refine ⟨by omega,by omega,hk,hk,hT.know,hp1,hp2,hk,fun z=>z=f.way.set k (knowT (f.way.getD k dFTx) p),⟨_,by rw [setF_setF,cSetTO _ _ _ _ (knowT (f.way.getD k dFTx) p) (by simp [knowT])],rfl⟩,fun z hz=>?_⟩
 subst hz
 have hg:=getD_set_eq f.way hk (knowT (f.way.getD k dFTx) p) dFTx
 rw [hg,List.length_set,erase_set]
 simp only [knowF,hadd]
 have hr:=ris3_len (putP_ris hT.know ⟨hp1,hp2⟩)
 generalize f.way.getD k dFTx=T at *
 refine ⟨hk,hk,fun e1=>⟨hk,small2 _ _,by omega,fun e2=>?_,fun e2=>?_⟩,(),fun e1=>?_⟩
 ·have e1:(putP T.know p).length=3:=e1
  have hl:¬ f.disk.notes.length=120:=by simpa using e2
  rw [if_neg (by omega),if_pos (by rw [decide_eq_false hl]<;>rfl)];exact ⟨IntWalk.i64_in _ (by omega),hk,rfl,rfl,rfl⟩
 ·have e1:(putP T.know p).length=3:=e1
  have hl:f.disk.notes.length=120:=by simpa using e2
  have ha:∀ n,addI f.disk n false=f.disk:=fun n=>by simp [addI,hl]
  rw [if_neg (by omega),if_neg (by rw [decide_eq_true hl];decide),ha];exact ⟨rfl,rfl,rfl⟩
 ·have e1:¬ (putP T.know p).length=3:=e1
  rw [if_pos (by omega)];exact ⟨rfl,rfl,rfl⟩
def impl_FroState_know_c:Con Tryz.prog:=conP [.ptr,.lend,.lend] fun (b:Front×Nat×Int) h=>impl_FroState_know_ok (b.1) (b.2.1) (b.2.2) h
end Go.Proofs.AI
namespace Go.Proofs.AI
open Go.RowKit Go.Proofs
set_option linter.unusedVariables false
set_option linter.unusedSimpArgs false
set_option maxRecDepth 100000
theorem impl_FroState_hear_ok (f:Front) (m:Msg) (hpre:okF f/\(m.frm=0∨1<=m.frm/\m.frm<=3)/\(4<=m.kind->1<=m.frm/\m.frm<=3)):FunOK Tryz.prog 98 2 [0] [(0,⟨.box,cKFrontO f,[]⟩),(1,kMsg m)] (·=[(2,⟨.tup [(false,1),(false,1)],[.c (oMsgs (hearF f m).2.1),.c (oFOuts (hearF f m).2.2)],[]⟩),(0,⟨.box,cKFrontO (hearF f m).1,[]⟩)]):=by
 refine fun_to (E:=⟨tab,ctOf [impl_of_c,impl_told_c,impl_FroState_find_c,impl_FroState_abort_c,impl_FroState_can_c,impl_FroState_know_c],103,[0],[(0,[0,3,36,37,38,48,49,50,92,102]),(1,[0,3,6,36,37,38,48,49,50,92,102]),(2,[0,3,6,7,36,37,38,48,49,50,92,102]),(3,[0,3,6,7,25,36,37,38,48,49,50,92,102]),(4,[0,4,5,36,37,38,48,49,50,92,102]),(5,[0,3,6,7,36,37,38,39,48,49,50,92,102]),(6,[0,4,5,36,37,38,48,49,50,92,102]),(7,[0,3,6,36,37,38,48,49,50,51,92,102]),(8,[0,36,37,38,48,49,50,92,102]),(9,[0,3,6,36,37,38,48,49,50,68,92,102]),(10,[0,3,6,36,37,38,48,49,50,77,92,102]),(11,[0,4,5,36,37,38,48,49,50,92,102]),(12,[0,3,36,37,38,48,49,50,92,93,102]),(13,[0,4,5,36,37,38,48,49,50,92,102]),(14,[0,4,5,36,37,38,48,49,50,92,102])],[],[],[(2,⟨Bool,fun x=>[(0,⟨.box,cKFrontO f,[]⟩),(3,⟨.box,cKMsg m,[]⟩),(6,kI (atF f.way m.tx)),(7,k1 (.b x))]⟩),(3,⟨Bool×Bool,fun x=>[(0,⟨.box,cKFrontO f,[]⟩),(3,⟨.box,cKMsg m,[]⟩),(6,kI (atF f.way m.tx)),(7,k1 (.b x.1)),(25,k1 (.b x.2))]⟩),(5,⟨Bool×Bool,fun x=>[(0,⟨.box,cKFrontO f,[]⟩),(3,⟨.box,cKMsg m,[]⟩),(6,kI (atF f.way m.tx)),(7,k1 (.b x.1)),(39,k1 (.b x.2))]⟩),(7,⟨Bool,fun x=>[(0,⟨.box,cKFrontO f,[]⟩),(3,⟨.box,cKMsg m,[]⟩),(6,kI (atF f.way m.tx)),(51,k1 (.b x))]⟩),(9,⟨Bool,fun x=>[(0,⟨.box,cKFrontO f,[]⟩),(3,⟨.box,cKMsg m,[]⟩),(6,kI (atF f.way m.tx)),(68,k1 (.b x))]⟩)],[]⟩) tab_ok mixed Tryz.func98 rfl Tryz.ntmps98 (rvs:=[.tmp 4,.tmp 5]) Tryz.results98 rfl fun hl=>?_
 refine cast (show (let k_8:Prop:=(hearF f m).2.2.length=n_0;let k_7:Prop:=atF f.way m.tx=atF f.way m.tx;let k_6:Prop:=(hearF f m).2.1.length=n_0/\k_8;let k_5:Prop:=q_f f.disk.notes f.disk.notes/\f.disk.safe=f.disk.safe/\q_j f.way f.way;let k_4:Prop:=q_f f.disk.notes (hearF f m).1.disk.notes/\f.disk.safe=(hearF f m).1.disk.safe/\q_j f.way (hearF f m).1.way;let k_3:Prop:=((∀ (k:Nat),True/\True/\True/\True/\True/\True/\True/\True/\True/\True/\True/\True)/\True)/\True;let k_2:Prop:=k_6/\k_4;let k_1:Prop:=m.kind=m.kind/\m.to=m.to/\m.frm=m.frm/\m.tx=m.tx/\m.op.kind=m.op.kind/\m.op.who=m.op.who/\m.op.inn=m.op.inn/\m.op.code=m.op.code/\m.op.sec=m.op.sec/\m.op.fam=m.op.fam/\m.op.gen=m.op.gen;∃ (b:Front×Int),let k_9:Prop:=q_f b.1.disk.notes f.disk.notes/\b.1.disk.safe=f.disk.safe/\q_j b.1.way f.way;((q_f f.disk.notes b.1.disk.notes/\f.disk.safe=b.1.disk.safe/\q_j f.way b.1.way)/\m.tx=b.2)/\(∃ (post:Bool->Prop),((decide (atF b.1.way b.2≥i_0)=true->(i_0<=atF b.1.way b.2/\atF b.1.way b.2<zi b.1.way.length)/\(atF b.1.way b.2).toNat<b.1.way.length/\(∃ (x:Bool),(k_9/\k_1/\atF b.1.way b.2=atF f.way m.tx/\(!(b.1.way.getD (atF b.1.way b.2).toNat dFTx).yes)=x)/\post x))/\(decide (atF b.1.way b.2≥i_0)=false->∃ (x:Bool),(k_9/\k_1/\atF b.1.way b.2=atF f.way m.tx/\false=x)/\post x))/\(∀ (x:Bool),post x->∃ (post:Bool×Bool->Prop),(((m.kind==i_4)=true->∃ (x_1:Bool×Bool),(k_5/\k_1/\k_7/\x=x_1.1/\x=x_1.2)/\post x_1)/\((m.kind==i_4)=false->∃ (x_1:Bool×Bool),(k_5/\k_1/\k_7/\x=x_1.1/\false=x_1.2)/\post x_1))/\(∀ (x:Bool×Bool),post x->(x.2=true->∃ (b:Front×Nat×Int),((q_f f.disk.notes b.1.disk.notes/\f.disk.safe=b.1.disk.safe/\q_j f.way b.1.way)/\atF f.way m.tx=zi b.2.1/\m.frm=b.2.2)/\(okF b.1/\b.2.1<b.1.way.length/\i_1<=b.2.2/\b.2.2<=i_3)/\(q_g (canF b.1 b.2.1 b.2.2).2.1 (hearF f m).2.1/\q_k (canF b.1 b.2.1 b.2.2).2.2 (hearF f m).2.2)/\q_f (canF b.1 b.2.1 b.2.2).1.disk.notes (hearF f m).1.disk.notes/\(canF b.1 b.2.1 b.2.2).1.disk.safe=(hearF f m).1.disk.safe/\q_j (canF b.1 b.2.1 b.2.2).1.way (hearF f m).1.way)/\(x.2=false->∃ (post:Bool×Bool->Prop),(((m.kind==i_5)=true->∃ (x_1:Bool×Bool),(k_5/\k_1/\k_7/\x.1=x_1.1/\x.1=x_1.2)/\post x_1)/\((m.kind==i_5)=false->∃ (x_1:Bool×Bool),(k_5/\k_1/\k_7/\x.1=x_1.1/\false=x_1.2)/\post x_1))/\(∀ (x:Bool×Bool),post x->(x.2=true->∃ (b:Front×Nat),((q_f f.disk.notes b.1.disk.notes/\f.disk.safe=b.1.disk.safe/\q_j f.way b.1.way)/\atF f.way m.tx=zi b.2)/\(b.2<b.1.way.length/\b.1.way.length<=n_1000)/\(q_g (noF b.1 b.2).2.1 (hearF f m).2.1/\q_k (noF b.1 b.2).2.2 (hearF f m).2.2)/\q_f (noF b.1 b.2).1.disk.notes (hearF f m).1.disk.notes/\(noF b.1 b.2).1.disk.safe=(hearF f m).1.disk.safe/\q_j (noF b.1 b.2).1.way (hearF f m).1.way)/\(x.2=false->∃ (post:Bool->Prop),let k_10:Prop:=∃ (x:Bool),(k_5/\k_1/\k_7/\false=x)/\post x;(((m.kind==i_6)=true->(decide (atF f.way m.tx≥i_0)=true->∃ (x_1:Bool),(k_5/\k_1/\k_7/\(!x.1)=x_1)/\post x_1)/\(decide (atF f.way m.tx≥i_0)=false->k_10))/\((m.kind==i_6)=false->k_10))/\(∀ (x:Bool),post x->(x=true->∃ (b:Front×Nat×Int),((q_f f.disk.notes b.1.disk.notes/\f.disk.safe=b.1.disk.safe/\q_j f.way b.1.way)/\atF f.way m.tx=zi b.2.1/\m.frm=b.2.2)/\(okF b.1/\b.2.1<b.1.way.length/\i_1<=b.2.2/\b.2.2<=i_3)/\k_6/\q_f (knowF b.1 b.2.1 b.2.2).disk.notes (hearF f m).1.disk.notes/\(knowF b.1 b.2.1 b.2.2).disk.safe=(hearF f m).1.disk.safe/\q_j (knowF b.1 b.2.1 b.2.2).way (hearF f m).1.way)/\(x=false->∃ (post:Bool->Prop),(((m.kind==i_4)=false->∃ (x:Bool),(k_5/\k_1/\k_7/\(m.kind==i_7)=x)/\post x)/\((m.kind==i_4)=true->∃ (x:Bool),(k_5/\k_1/\k_7/\true=x)/\post x))/\(∀ (x:Bool),post x->(x=true->∃ (b:Disk×Int),((cnRs (frozenRs (typ dNote eNoteO f.disk.notes))=t_e b.1.notes/\f.disk.safe=b.1.safe)/\m.tx=b.2)/\((ofN b.1.notes b.2==i_2)=true->∃ (b:y_20),(i_2=b.1/\m.tx=b.2.1/\(i_0=b.2.2.1.kind/\i_0=b.2.2.1.who/\i_0=b.2.2.1.inn/\i_0=b.2.2.1.code/\i_0=b.2.2.1.sec/\i_0=b.2.2.1.fam/\i_0=b.2.2.1.gen)/\cnRs (frozenRs (typ i_0 (fun (y:Int)=>[cn_ y]) [m.frm]))=t_I b.2.2.2)/\b.2.2.2.length<=n_1000/\k_3/\(q_g (toldF b.1 b.2.1 b.2.2.1 b.2.2.2) (hearF f m).2.1/\k_8)/\k_4)/\((ofN b.1.notes b.2==i_2)=false->(decide (atF f.way m.tx<i_0)=true->∃ (b:y_20),(i_3=b.1/\m.tx=b.2.1/\(i_0=b.2.2.1.kind/\i_0=b.2.2.1.who/\i_0=b.2.2.1.inn/\i_0=b.2.2.1.code/\i_0=b.2.2.1.sec/\i_0=b.2.2.1.fam/\i_0=b.2.2.1.gen)/\cnRs (frozenRs (typ i_0 (fun (y:Int)=>[cn_ y]) [m.frm]))=t_I b.2.2.2)/\b.2.2.2.length<=n_1000/\k_3/\(q_g (toldF b.1 b.2.1 b.2.2.1 b.2.2.2) (hearF f m).2.1/\k_8)/\k_4)/\(decide (atF f.way m.tx<i_0)=false->k_2)))/\(x=false->k_2)))))))))))=_ by kernel_rfl) ?_
 delta i_0 i_1 i_5 i_2 i_3 i_4 zi t_I n_0 n_1000 cn_ i_7 i_6 t_e t_f q_f t_g q_g y_20 t_j q_j t_k q_k
 simp only [zza,zzb,true_and,and_true,and_self,ne_eq,cI_app,cWrtO_app,cWrtS_app,cWrtO_1,cItemO_1,opr_ex,zcast,frz_nil,nil_map,wayEq_self,Option.getD_none,Option.getD_some]
 obtain ⟨hf,_,hm⟩:=hpre
 have hat:=fun h=>atF_lt (w:=f.way) (tx:=m.tx) h
 have hw:=hf.wl
 simp only [hearF,whatF]
 generalize hA:atF f.way m.tx=A at *
 refine ⟨fun z=>(z=true↔(0<=A/\yesAt f A=false)),fun h1=>⟨h1,by have:=(hat h1).1;omega,(hat h1).1,?_⟩,fun h1=>by simp only [Bool.false_eq_true,false_iff];exact fun h=>h1 h.1,fun z hz=>?_⟩
 ·show (!yesAt f A)=true↔_
  rw [Bool.not_eq_true'];exact ⟨fun h=>⟨h1,h⟩,fun h=>h.2⟩
 refine ⟨fun y=>y.1=z/\(y.2=true↔(m.kind=4/\z=true)),fun h=>⟨rfl,by simp [h]⟩,fun h=>⟨rfl,by simp [h]⟩,fun y b hy=>?_⟩
 simp only at hy
 obtain ⟨rfl,hb⟩:=hy
 refine ⟨fun h=>?_,fun h=>?_⟩
 ·obtain ⟨k4,hz1⟩:=hb.1 h
  obtain ⟨a1,a2⟩:=hz.1 hz1
  have hl:=(hat a1).1
  have hp:=hm (by omega)
  rw [if_neg (fun hc=>by omega),if_pos ⟨k4,a1,a2⟩]
  exact ⟨A.toNat,by omega,hf,hl,hp.1,hp.2,rfl,rfl,rfl,rfl,rfl⟩
 have c4:¬ (m.kind=4/\0<=A/\yesAt f A=false):=fun hc=>by rw [hb.2 ⟨hc.1,hz.2 hc.2⟩] at h;cases h
 refine ⟨fun x=>x.1=y/\(x.2=true↔(m.kind=5/\y=true)),fun h=>⟨rfl,by simp [h]⟩,fun h=>⟨rfl,by simp [h]⟩,fun x d hx=>?_⟩
 simp only at hx
 obtain ⟨rfl,hd⟩:=hx
 refine ⟨fun h=>?_,fun h=>?_⟩
 ·obtain ⟨k5,hz1⟩:=hd.1 h
  obtain ⟨a1,a2⟩:=hz.1 hz1
  have hl:=(hat a1).1
  rw [if_neg (fun hc=>by omega),if_neg c4,if_pos ⟨k5,a1,a2⟩]
  exact ⟨A.toNat,by omega,hl,by omega,rfl,rfl,rfl,rfl,rfl⟩
 have c5:¬ (m.kind=5/\0<=A/\yesAt f A=false):=fun hc=>by rw [hd.2 ⟨hc.1,hz.2 hc.2⟩] at h;cases h
 refine ⟨fun q=>(q=true↔(m.kind=6/\0<=A/\yesAt f A=true)),fun k6=>⟨fun h1=>?_,fun h1=>by simp only [Bool.false_eq_true,false_iff];exact fun h=>h1 h.2.1⟩,fun k6=>by simp only [Bool.false_eq_true,false_iff];exact fun h=>k6 h.1,fun q hq=>?_⟩
 ·show (!x)=true↔_
  rw [Bool.not_eq_true']
  refine ⟨fun h=>⟨k6,h1,?_⟩,fun h=>?_⟩
  ·rcases Bool.eq_false_or_eq_true (yesAt f A) with hy | hy
   ·exact hy
   ·rw [hz.2 ⟨h1,hy⟩] at h;cases h
  ·rcases Bool.eq_false_or_eq_true x with hx | hx
   ·have:=(hz.1 hx).2;rw [h.2.2] at this;cases this
   ·exact hx
 refine ⟨fun h=>?_,fun h=>?_⟩
 ·have hc:=hq.1 h
  have hl:=(hat hc.2.1).1
  have hp:=hm (by omega)
  rw [if_pos hc]
  exact ⟨A.toNat,by omega,hf,hl,hp.1,hp.2,rfl,rfl,rfl,rfl,rfl⟩
 have c6:¬ (m.kind=6/\0<=A/\yesAt f A=true):=fun hc=>by rw [hq.2 hc] at h;cases h
 rw [if_neg c6,if_neg c4,if_neg c5]
 refine ⟨fun u=>(u=true↔(m.kind=4∨m.kind=7)),fun h1=>by simp [h1],fun h1=>by simp [h1],fun u hu=>⟨fun h2=>?_,fun h2=>?_⟩⟩
 ·rw [if_pos (hu.1 h2)]
  refine ⟨fun e=>?_,fun e=>⟨fun e2=>?_,fun e2=>?_⟩⟩
  ·simp only [if_pos e];exact ⟨by simp,told_send (.inr rfl),rfl,trivial,trivial,trivial⟩
  ·simp only [if_neg e,if_neg (show ¬ 0<=A by omega)];exact ⟨by simp,told_send (.inr rfl),rfl,trivial,trivial,trivial⟩
  ·simp only [if_neg e,if_pos (show 0<=A by omega)];exact ⟨rfl,rfl,trivial,trivial,trivial⟩
 ·rw [if_neg (fun h3=>by rw [hu.2 h3] at h2;cases h2)];exact ⟨rfl,rfl,rfl,rfl,rfl⟩
def impl_FroState_hear_c:Con Tryz.prog:=conP [.ptr,.lend] fun (b:Front×Msg) h=>impl_FroState_hear_ok (b.1) (b.2) h
theorem msg_frm {m:Msg} (h:msgB m=true):(m.frm=0∨1<=m.frm/\m.frm<=3)/\(4<=m.kind->1<=m.frm/\m.frm<=3):=by
 simp only [msgB,Bool.and_eq_true] at h
 obtain ⟨_,h⟩:=h
 split at h
 ·rename_i k;simp only [Bool.and_eq_true,beq_iff_eq] at h;exact ⟨.inl h.1.1,fun _=>by omega⟩
 ·simp only [Bool.and_eq_true] at h
  obtain ⟨_,h⟩:=h
  split at h
  ·simp only [Bool.and_eq_true,beq_iff_eq] at h;exact ⟨.inl h.1,fun _=>by omega⟩
  ·simp [inR] at h;exact ⟨.inr h.2,fun _=>h.2⟩
def hearB (f:Front) (m:Msg):Front×List Msg×List FOut:=if (froB f&&msgB m&&decide (m.to=0))=true then hearF f m else (⟨⟨[],0⟩,[]⟩,[],[])
theorem impl_FroHear_ok (f:Front) (m:Msg):FunOK Tryz.prog 47 2 [] [(0,kFrontS f),(1,kMsg m)] (·=[(2,⟨.tup [(true,3),(false,1),(false,1)],[.c (oNotes (hearB f m).1.disk.notes),.c (.n .i64 (hearB f m).1.disk.safe),.c (oFTxs (hearB f m).1.way),.c (oMsgs (hearB f m).2.1),.c (oFOuts (hearB f m).2.2)],[]⟩)]):=by
 refine fun_to (E:=⟨tab,ctOf [impl_FroOk_c,impl_MsgOk_c,impl_FroState_copied_c,impl_FroState_hear_c],34,[],[(0,[2,3,4,7,8,9,23,26,28,29,30,31,32,33]),(1,[2,3,4,7,8,9,22,23,26,28,29,30,31,32,33]),(2,[4,5,6,7,8,9,23,26,28,29,30,31,32,33]),(3,[3,4,7,23,31]),(4,[4,7,8,9,23,26,28,29,30,31]),(5,[4,5,6,7,8,9,23,26,28,29,30,31,32,33])],[],[(5,[(1000001,[]),(1000002,[])])],[],[]⟩) tab_ok mixed Tryz.func47 rfl Tryz.ntmps47 (rvs:=[.cell 4 28,.tmp 5,.tmp 6]) Tryz.results47 rfl fun hl=>?_
 refine cast (show (let k_1:Prop:=cnRs nilR=t_f (hearB f m).1.disk.notes/\i_0=(hearB f m).1.disk.safe/\cnRs nilR=t_j (hearB f m).1.way/\(hearB f m).2.1.length=n_0/\(hearB f m).2.2.length=n_0;∃ (b:Front),(q_e f.disk.notes b.disk.notes/\f.disk.safe=b.disk.safe/\q_h f.way b.way)/\((!froB b)=false->∃ (b:Msg),(m.kind=b.kind/\m.to=b.to/\m.frm=b.frm/\m.tx=b.tx/\m.op.kind=b.op.kind/\m.op.who=b.op.who/\m.op.inn=b.op.inn/\m.op.code=b.op.code/\m.op.sec=b.op.sec/\m.op.fam=b.op.fam/\m.op.gen=b.op.gen)/\((!msgB b)=false->((m.to != i_0)=true->k_1)/\((m.to != i_0)=false->∃ (b:Front),(q_e f.disk.notes b.disk.notes/\f.disk.safe=b.disk.safe/\q_h f.way b.way)/\smallF b/\(∃ (b_1:Front×Msg),((q_f b.disk.notes b_1.1.disk.notes/\b.disk.safe=b_1.1.disk.safe/\q_j b.way b_1.1.way)/\m.kind=b_1.2.kind/\m.to=b_1.2.to/\m.frm=b_1.2.frm/\m.tx=b_1.2.tx/\m.op.kind=b_1.2.op.kind/\m.op.who=b_1.2.op.who/\m.op.inn=b_1.2.op.inn/\m.op.code=b_1.2.op.code/\m.op.sec=b_1.2.op.sec/\m.op.fam=b_1.2.op.fam/\m.op.gen=b_1.2.op.gen)/\(okF b_1.1/\(b_1.2.frm=i_0∨i_1<=b_1.2.frm/\b_1.2.frm<=i_3)/\(i_4<=b_1.2.kind->i_1<=b_1.2.frm/\b_1.2.frm<=i_3))/\q_f (hearF b_1.1 b_1.2).1.disk.notes (hearB f m).1.disk.notes/\(hearF b_1.1 b_1.2).1.disk.safe=(hearB f m).1.disk.safe/\q_j (hearF b_1.1 b_1.2).1.way (hearB f m).1.way/\q_g (hearF b_1.1 b_1.2).2.1 (hearB f m).2.1/\q_k (hearF b_1.1 b_1.2).2.2 (hearB f m).2.2)))/\((!msgB b)=true->k_1))/\((!froB b)=true->k_1))=_ by kernel_rfl) ?_
 delta i_0 i_1 i_3 i_4 n_0 t_e q_e t_f q_f t_g q_g t_h q_h t_j q_j t_k q_k
 simp only [zza,zzb,true_and,and_true,and_self,ne_eq,cI_app,cWrtO_app,cWrtS_app,cWrtO_1,cItemO_1,opr_ex,zcast,frz_nil,nil_map,wayEq_self,Option.getD_none,Option.getD_some]
 have no:(froB f&&msgB m&&decide (m.to=0))=false->[]=(hearB f m).1.disk.notes/\0=(hearB f m).1.disk.safe/\[]=(hearB f m).1.way/\(hearB f m).2.1.length=0/\(hearB f m).2.2.length=0:=fun h=>by
  simp only [hearB,h];exact ⟨rfl,rfl,rfl,rfl,rfl⟩
 refine ⟨fun h1=>⟨fun h2=>⟨fun h3=>no (by simp [h3]),fun h3=>?_⟩,fun h2=>no (by simp at h2;simp [h2])⟩,fun h1=>no (by simp at h1;simp [h1])⟩
 simp only [Bool.not_eq_false'] at h1 h2
 have h3:m.to=0:=by simpa using h3
 have e:hearB f m=hearF f m:=by simp only [hearB,h1,h2,h3,decide_true,Bool.and_self,if_true]
 rw [e]
 exact ⟨(froB_iff.1 h1).small,froB_iff.1 h1,(msg_frm h2).1,(msg_frm h2).2,rfl,rfl,rfl,rfl,rfl⟩
def impl_FroHear_c:Con Tryz.prog:=con0 [.lend,.lend] fun b:Front×Msg=>impl_FroHear_ok (b.1) (b.2)
theorem spec_FroBegin_ok (f:Front) (tx:Int) (o:Opr):FunOK Tryz.prog 43 3 [] [(0,kFrontS f),(1,kI tx),(2,kOp o)] (·=[(3,⟨.tup [(true,3),(false,1),(false,1)],[.c (oNotes (begB f tx o).1.disk.notes),.c (.n .i64 (begB f tx o).1.disk.safe),.c (oFTxs (begB f tx o).1.way),.c (oMsgs (begB f tx o).2.1),.c (.b (begB f tx o).2.2)],[]⟩)]):=by
 refine fun_to (E:=⟨tab,ctOf [spec_FroOk_c,spec_OpOk_c,spec_l1In_c,spec_l6Copy_c,spec_l6Begin_c],40,[],[(0,[1,3,5,6,10,25,26,27,32,34,37,38]),(1,[1,3,5,6,10,24,25,26,27,32,34,37,38]),(2,[6,7,8,10,25,26,27,32,34,37,38]),(3,[6,9,10,11,25,26,27,32,34,37]),(4,[6,7,8,10,25,26,27,32,34,37,38])],[],[(3,[(4,[29]),(2000004,[4])]),(4,[(1000002,[])])],[],[]⟩) tab_ok mixed Tryz.func43 rfl Tryz.ntmps43 (rvs:=[.cell 6 28,.tmp 7,.tmp 8]) Tryz.results43 rfl fun hl=>?_
 refine cast (show (let k_2:Prop:=∀ (k:Nat),True/\True;let k_1:Prop:=cnRs nilR=t_f (begB f tx o).1.disk.notes/\i_0=(begB f tx o).1.disk.safe/\cnRs nilR=t_j (begB f tx o).1.way/\cnRs (raw [])=t_g (begB f tx o).2.1/\false=(begB f tx o).2.2;∃ (b:Front),(q_e f.disk.notes b.disk.notes/\f.disk.safe=b.disk.safe/\q_h f.way b.way)/\((!froB b)=false->∃ (b:Int×Int×Int),(tx=b.1/\i_0=b.2.1/\i_29=b.2.2)/\((!inR b.1 b.2.1 b.2.2)=false->∃ (b:Opr),(o.kind=b.kind/\o.who=b.who/\o.inn=b.inn/\o.code=b.code/\o.sec=b.sec/\o.fam=b.fam/\o.gen=b.gen)/\((!opOk b)=true->k_1)/\((!opOk b)=false->∃ (b:Front),(q_e f.disk.notes b.disk.notes/\f.disk.safe=b.disk.safe/\q_h f.way b.way)/\smallF b/\(∃ (b_1:Front×Int×Opr),((cnRs (frozenRs (typ dNote eNoteO b.disk.notes))=t_e b_1.1.disk.notes/\b.disk.safe=b_1.1.disk.safe/\cnRs (frozenRs (typ dFTx eFTxO b.way))=t_h b_1.1.way)/\tx=b_1.2.1/\o.kind=b_1.2.2.kind/\o.who=b_1.2.2.who/\o.inn=b_1.2.2.inn/\o.code=b_1.2.2.code/\o.sec=b_1.2.2.sec/\o.fam=b_1.2.2.fam/\o.gen=b_1.2.2.gen)/\(b_1.1.disk.notes.length<=n_1000/\b_1.1.way.length<=n_1000)/\(∃ (b:Front),(q_e (beginF b_1.1 b_1.2.1 b_1.2.2).1.disk.notes b.disk.notes/\(beginF b_1.1 b_1.2.1 b_1.2.2).1.disk.safe=b.disk.safe/\cnRs (frozenRs (typ dFTx eFTxS (beginF b_1.1 b_1.2.1 b_1.2.2).1.way))=t_h b.way)/\smallF b/\(((∀ (k:Nat),True/\True/\k_2/\(∀ (k:Nat),True/\True/\k_2/\True)/\True)/\True/\(∀ (k:Nat),True/\True/\True/\True/\True/\True/\True/\True/\True/\k_2/\k_2/\True)/\True)/\True)/\q_f b.disk.notes (begB f tx o).1.disk.notes/\b.disk.safe=(begB f tx o).1.disk.safe/\q_j b.way (begB f tx o).1.way/\q_g (beginF b_1.1 b_1.2.1 b_1.2.2).2.1 (begB f tx o).2.1/\(beginF b_1.1 b_1.2.1 b_1.2.2).2.2=(begB f tx o).2.2))))/\((!inR b.1 b.2.1 b.2.2)=true->k_1))/\((!froB b)=true->k_1))=_ by kernel_rfl) ?_
 delta i_0 n_1000 i_29 t_e q_e t_f q_f t_g q_g t_h q_h t_j q_j
 simp only [zza,zzb,true_and,and_true,and_self,ne_eq,cI_app,cWrtO_app,cWrtS_app,cWrtO_1,cItemO_1,opr_ex,zcast,frz_nil,nil_map,wayEq_self,Option.getD_none,Option.getD_some]
 have no:(froB f&&inR tx 0 29&&opOk o)=false->[]=(begB f tx o).1.disk.notes/\0=(begB f tx o).1.disk.safe/\[]=(begB f tx o).1.way/\[]=(begB f tx o).2.1/\false=(begB f tx o).2.2:=fun h=>by
  simp only [begB,h];exact ⟨rfl,rfl,rfl,rfl,rfl⟩
 refine ⟨fun h1=>⟨fun h2=>⟨fun h3=>no (by simp at h3;simp [h3]),fun h3=>?_⟩,fun h2=>no (by simp at h2;simp [h2])⟩,fun h1=>no (by simp at h1;simp [h1])⟩
 simp only [Bool.not_eq_false'] at h1 h2 h3
 have e:begB f tx o=beginF f tx o:=by simp only [begB,h1,h2,h3,Bool.and_self,if_true]
 have hf:=froB_iff.1 h1
 rw [e]
 exact ⟨hf.small,hf.small.1.1,hf.small.2.1,(begin_ok hf (by simpa [inR] using h2) h3).small,rfl,rfl,rfl,rfl,rfl⟩
def spec_FroBegin_c:Con Tryz.prog:=con0 [.lend,.lend,.lend] fun b:Front×Int×Opr=>spec_FroBegin_ok (b.1) (b.2.1) (b.2.2)
end Go.Proofs.AI
namespace Go.Proofs.AI
open Go.RowKit Go.Proofs
set_option linter.unusedVariables false
set_option linter.unusedSimpArgs false
set_option maxRecDepth 100000
def begDr (l:List Int):Front×Int×Opr :=
 let a:=frontD l 0 12
 ((a.1),([pickB l a.2 30,-1,30]:List Int).getD (([0,0,0,0,1,2]:List Int).getD (pickB l (a.2+1) 6).toNat 0).toNat 0,(opB l (a.2+2) 9).1)
theorem spec_DrawFroBegin_ok (l:List Int) (hpre:okU l):FunOK Tryz.prog 41 1 [] [(0,k1 (sU l))] (·=[(1,⟨.tup [(true,3),(false,1),(true,7)],[.c (oNotes (begDr (l.take 2000)).1.disk.notes),.c (.n .i64 (begDr (l.take 2000)).1.disk.safe),.c (oFTxs (begDr (l.take 2000)).1.way),.c (.n .i64 (begDr (l.take 2000)).2.1),.c (.n .i64 (begDr (l.take 2000)).2.2.kind),.c (.n .i64 (begDr (l.take 2000)).2.2.who),.c (.n .i64 (begDr (l.take 2000)).2.2.inn),.c (.n .i64 (begDr (l.take 2000)).2.2.code),.c (.n .i64 (begDr (l.take 2000)).2.2.sec),.c (.n .i64 (begDr (l.take 2000)).2.2.fam),.c (.n .i64 (begDr (l.take 2000)).2.2.gen)],[]⟩)]):=by
 refine fun_to (E:=⟨tab,ctOf [spec_l20Front_c,spec_l20Open_c,spec_rd_pick_c,spec_l20Op_c],22,[],[(0,[0,2,4,9]),(1,[2,4,5,7,9]),(2,[2,3,4,9])],[],[],[],[]⟩) tab_ok mixed Tryz.func41 rfl Tryz.ntmps41 (rvs:=[.cell 2 28,.tmp 3,.cell 4 33]) Tryz.results41 rfl fun hl=>?_
 refine cast (show (∃ (b:List Int),q_U l b/\∃ (b_1:y_6),((q_U (List.take n_2000 b) b_1.1/\zi n_0=zi b_1.2.1)/\i_12=b_1.2.2)/\(rdB b_1.1 b_1.2.1 n_4000/\b_1.2.2<i_1000000)/\∃ (b:y_6),((q_U b_1.1 b.1/\(zi (frontD b_1.1 b_1.2.1 b_1.2.2).2)=zi b.2.1)/\i_30=b.2.2)/\rdB b.1 b.2.1 n_1/\∃ (b_2:y_6),((q_U b.1 b_2.1/\(zi (b.2.1+n_1))=zi b_2.2.1)/\i_6=b_2.2.2)/\rdB b_2.1 b_2.2.1 n_1/\(i_0<=pickB b_2.1 b_2.2.1 b_2.2.2/\pickB b_2.1 b_2.2.1 b_2.2.2<zi n_6)/\(pickB b_2.1 b_2.2.1 b_2.2.2).toNat<n_6/\(i_0<=[i_0,i_0,i_0,i_0,i_1,i_2].getD (pickB b_2.1 b_2.2.1 b_2.2.2).toNat i_0/\[i_0,i_0,i_0,i_0,i_1,i_2].getD (pickB b_2.1 b_2.2.1 b_2.2.2).toNat i_0<zi n_3)/\([i_0,i_0,i_0,i_0,i_1,i_2].getD (pickB b_2.1 b_2.2.1 b_2.2.2).toNat i_0).toNat<n_3/\∃ (b_3:y_6),((q_U b_2.1 b_3.1/\(zi (b_2.2.1+n_1))=zi b_3.2.1)/\i_9=b_3.2.2)/\(rdB b_3.1 b_3.2.1 n_8/\b_3.2.2<i_1000000)/\q_f (frontD b_1.1 b_1.2.1 b_1.2.2).1.disk.notes (begDr (List.take n_2000 l)).1.disk.notes/\(frontD b_1.1 b_1.2.1 b_1.2.2).1.disk.safe=(begDr (List.take n_2000 l)).1.disk.safe/\q_j (frontD b_1.1 b_1.2.1 b_1.2.2).1.way (begDr (List.take n_2000 l)).1.way/\[pickB b.1 b.2.1 b.2.2,(-1:Int),i_30].getD ([i_0,i_0,i_0,i_0,i_1,i_2].getD (pickB b_2.1 b_2.2.1 b_2.2.2).toNat i_0).toNat i_0=(begDr (List.take n_2000 l)).2.1/\(opB b_3.1 b_3.2.1 b_3.2.2).1.kind=(begDr (List.take n_2000 l)).2.2.kind/\(opB b_3.1 b_3.2.1 b_3.2.2).1.who=(begDr (List.take n_2000 l)).2.2.who/\(opB b_3.1 b_3.2.1 b_3.2.2).1.inn=(begDr (List.take n_2000 l)).2.2.inn/\(opB b_3.1 b_3.2.1 b_3.2.2).1.code=(begDr (List.take n_2000 l)).2.2.code/\(opB b_3.1 b_3.2.1 b_3.2.2).1.sec=(begDr (List.take n_2000 l)).2.2.sec/\(opB b_3.1 b_3.2.1 b_3.2.2).1.fam=(begDr (List.take n_2000 l)).2.2.fam/\(opB b_3.1 b_3.2.1 b_3.2.2).1.gen=(begDr (List.take n_2000 l)).2.2.gen)=_ by kernel_rfl) ?_
 delta i_0 i_9 i_1 i_2 zi n_0 n_8 n_1 n_3 i_1000000 t_U q_U n_2000 y_6 i_6 i_12 i_30 n_6 t_f q_f t_j q_j n_4000
 simp only [zza,zzb,true_and,and_true,and_self,ne_eq,cI_app,cWrtO_app,cWrtS_app,cWrtO_1,cItemO_1,opr_ex,zcast,frz_nil,nil_map,wayEq_self,Option.getD_none,Option.getD_some]
 have hr:rdB (l.take 2000) 0 4000:=⟨fun x hx=>hpre x (List.mem_of_mem_take hx),by omega⟩
 generalize l.take 2000=L at *
 have hd:=frontD_le 12 hr
 simp only [begDr]
 generalize frontD L 0 12=A at *
 have b:=pick_lt (l:=L) (p:=A.2+1) (n:=6) (rdB_le hr (by omega):rdB L (A.2+1) 1) (by omega)
 generalize pickB L (A.2+1) 6=i at *
 have hi:i=0∨i=1∨i=2∨i=3∨i=4∨i=5:=by omega
 have hk:0<=([0,0,0,0,1,2]:List Int).getD i.toNat 0/\([0,0,0,0,1,2]:List Int).getD i.toNat 0<3:=by rcases hi with rfl | rfl | rfl | rfl | rfl | rfl<;>decide
 exact ⟨hr,by omega,rdB_le hr (by omega),rdB_le hr (by omega),by omega,by omega,by omega,hk.1,hk.2,by omega,rdB_le hr (by omega),by omega,trivial,trivial,trivial,trivial,trivial,trivial,trivial,trivial,trivial,trivial,trivial⟩
def spec_DrawFroBegin_c:Con Tryz.prog:=conP [.lend] fun (b:List Int) h=>spec_DrawFroBegin_ok b h
end Go.Proofs.AI
namespace Go.Proofs.AI
open Go.RowKit Go.Proofs
set_option linter.unusedVariables false
set_option linter.unusedSimpArgs false
set_option maxRecDepth 100000
set_option pp.deepTerms true
set_option pp.maxSteps 40000
theorem getD_last {w:List FTx} {t:FTx}:(w++[t]).getD w.length dFTx=t:=by
 rw [List.getD_eq_getElem?_getD,List.getElem?_append_right (Nat.le_refl _)];simp
theorem at_last {d:Disk} {w:List FTx} {t:FTx} (h:okF ⟨d,w++[t]⟩):atF (w++[t]) t.tx=(w.length:Int):=by
 have:=h.at_eq (k:=w.length) (by simp)
 simp only [getD_last] at this
 exact this
theorem begin_new {f:Front} {tx:Int} {o:Opr} (hb:¬ noBegin f tx):beginF f tx o=(⟨f.disk,f.way++[⟨tx,o,false,[],[]⟩]⟩,sendF 1 tx o (placesL o),true):=by rw [beginF,if_neg hb]
end Go.Proofs.AI
namespace Go.Proofs.AI
open Go.RowKit Go.Proofs
set_option linter.unusedVariables false
set_option linter.unusedSimpArgs false
set_option maxRecDepth 100000
theorem set_last {w:List FTx} {t u:FTx}:(w++[t]).set w.length u=w++[u]:=by simp
theorem erase_last {w:List FTx} {t:FTx}:(w++[t]).eraseIdx w.length=w:=by
 rw [List.eraseIdx_append_of_length_le (Nat.le_refl _)];simp
theorem hearB_told {f:Front} (hf:okF f) {k p tx:Int} (hk:k=4∨k=6∨k=7) (hp:1<=p/\p<=3) (ht:0<=tx/\tx<=29) :
  hearB f ⟨k,0,p,tx,⟨0,0,0,0,0,0,0⟩⟩=hearF f ⟨k,0,p,tx,⟨0,0,0,0,0,0,0⟩⟩:=by
 have h:msgB ⟨k,0,p,tx,⟨0,0,0,0,0,0,0⟩⟩=true:=by
  have e:(⟨0,0,0,0,0,0,0⟩:Opr)=dOpr:=rfl
  rcases hk with rfl | rfl | rfl<;>simp [msgB,inR,ht,hp,e]
 simp only [hearB,froB_iff.2 hf,h,decide_true,Bool.and_self,if_true]
theorem places3 {o:Opr} (h:opOk o=true):placesL o=[1,3]∨placesL o=[1,2,3]∨placesL o=[2,3]:=by
 simp only [placesL,h,if_true]
 repeat' split
 all_goals simp
theorem putNext {P:List Int} (hP:P=[1,3]∨P=[1,2,3]∨P=[2,3]) {b:Nat} (hb:b<P.length) :
  (1<=P.getD b 0/\P.getD b 0<=3)/\putP (P.take b) (P.getD b 0)=P.take (b+1)/\(lessP P (P.take (b+1))).length=P.length-(b+1):=by
 rcases hP with rfl | rfl | rfl<;>rcases b with _ | _ | _ | b<;>first | decide | (simp only [List.length_cons,List.length_nil] at hb;omega)
def doneD (f:Front) (tx:Int):Disk:=⟨f.disk.notes++[⟨2,tx,[],[]⟩],(f.disk.notes.length:Int)+1⟩
def canS (f:Front) (tx:Int) (o:Opr) (b:Nat):Front:=if b<(placesL o).length then ⟨f.disk,f.way++[⟨tx,o,false,(placesL o).take b,[]⟩]⟩ else ⟨doneD f tx,f.way++[⟨tx,o,true,placesL o,[]⟩]⟩
def knowS (f:Front) (tx:Int) (o:Opr) (j:Nat):Front:=if j<3 then ⟨doneD f tx,f.way++[⟨tx,o,true,placesL o,[1,2,3].take j⟩]⟩ else ⟨⟨(doneD f tx).notes++[⟨4,tx,[],[]⟩],(doneD f tx).safe⟩,f.way⟩
theorem endCan {f:Front} {tx:Int} {o:Opr} (hf:okF f) (ht:0<=tx/\tx<=29) (h3:opOk o=true) (hn:¬ noBegin f tx) {b:Nat} (hb:b<(placesL o).length) (hX:okF (canS f tx o b)) :
  (hearB (canS f tx o b) ⟨4,0,(placesL o).getD b 0,tx,⟨0,0,0,0,0,0,0⟩⟩).1=canS f tx o (b+1)/\okF (canS f tx o (b+1)):=by
 obtain ⟨hp,q1,q2⟩:=putNext (places3 h3) hb
 obtain ⟨n1,n2,n3⟩:=begin_free hf hn
 have key:(hearB (canS f tx o b) ⟨4,0,(placesL o).getD b 0,tx,⟨0,0,0,0,0,0,0⟩⟩).1=canS f tx o (b+1):=by
  rw [hearB_told hX (.inl rfl) hp ht]
  rw [canS,if_pos hb] at hX ⊢
  have hA:=at_last hX
  simp only at hA
  simp only [hearF,hA,yesAt,Int.toNat_natCast,getD_last]
  rw [if_neg (by omega),if_pos (by simp)]
  simp only [canF,getD_last,canT,setT,set_last,q1,q2]
  by_cases hc:0<(placesL o).length-(b+1)
  ·rw [if_pos hc,canS,if_pos (by omega)]
  ·have hd:addD f.disk ⟨2,tx,[],[]⟩ true=(doneD f tx,true):=by
    simp only [addD,hf.fd,note_yes (k:=2) (.inl rfl) ht,Bool.and_self,if_true,doneD]
    rw [if_neg (by omega)]
   rw [if_neg hc,hd,if_pos rfl,canS,if_neg (by omega),yesT]
   simp only
   rw [List.take_of_length_le (by omega)]
 refine ⟨key,?_⟩
 have:=hear_ok (m:=⟨4,0,(placesL o).getD b 0,tx,⟨0,0,0,0,0,0,0⟩⟩) hX hp
 rw [<- hearB_told hX (.inl rfl) hp ht,key] at this
 exact this
theorem endKnow {f:Front} {tx:Int} {o:Opr} (hf:okF f) (ht:0<=tx/\tx<=29) (hn:¬ noBegin f tx) {b:Nat} (hb:b<3) (hX:okF (knowS f tx o b)) :
  (hearB (knowS f tx o b) ⟨6,0,((b+1:Nat):Int),tx,⟨0,0,0,0,0,0,0⟩⟩).1=knowS f tx o (b+1)/\okF (knowS f tx o (b+1)):=by
 have hp:(1:Int)<=((b+1:Nat):Int)/\((b+1:Nat):Int)<=3:=by omega
 have q1:putP (([1,2,3]:List Int).take b) ((b+1:Nat):Int)=[1,2,3].take (b+1):=by
  rcases b with _ | _ | _ | b
  ·decide
  ·decide
  ·decide
  ·omega
 obtain ⟨n1,n2,n3⟩:=begin_free hf hn
 have key:(hearB (knowS f tx o b) ⟨6,0,((b+1:Nat):Int),tx,⟨0,0,0,0,0,0,0⟩⟩).1=knowS f tx o (b+1):=by
  rw [hearB_told hX (.inr (.inl rfl)) hp ht]
  rw [knowS,if_pos hb] at hX ⊢
  have hA:=at_last hX
  simp only at hA
  simp only [hearF,hA,yesAt,Int.toNat_natCast,getD_last]
  rw [if_pos (by simp)]
  simp only [knowF,getD_last,knowT,setT,set_last,q1,erase_last,List.length_take,List.length_cons,List.length_nil]
  by_cases hc:b+1<3
  ·rw [if_pos (by omega),knowS,if_pos hc]
  ·have hd:addD (doneD f tx) ⟨4,tx,[],[]⟩ false=(⟨(doneD f tx).notes++[⟨4,tx,[],[]⟩],(doneD f tx).safe⟩,true):=by
    have hfd:diskB (doneD f tx)=true:=hX.fd
    simp only [addD,hfd,note_yes (k:=4) (.inr (.inr rfl)) ht,Bool.and_self,if_true]
    rw [if_neg (by simp only [doneD,List.length_append,List.length_singleton];omega)]
    rfl
   rw [if_neg (by omega),hd,if_pos rfl,knowS,if_neg hc]
 refine ⟨key,?_⟩
 have:=hear_ok (m:=⟨6,0,((b+1:Nat):Int),tx,⟨0,0,0,0,0,0,0⟩⟩) hX hp
 rw [<- hearB_told hX (.inr (.inl rfl)) hp ht,key] at this
 exact this
theorem endWhat {f:Front} {tx:Int} {o:Opr} (ht:0<=tx/\tx<=29) (hX:okF (knowS f tx o 3)) :
  (hearB (knowS f tx o 3) ⟨7,0,2,tx,⟨0,0,0,0,0,0,0⟩⟩).2.1=sendF 2 tx dOpr [2]:=by
 rw [hearB_told hX (.inr (.inr rfl)) (by omega) ht,knowS,if_neg (by omega)]
 simp only [hearF]
 rw [if_neg (by omega),if_neg (by omega),if_neg (by omega),if_pos (.inr trivial)]
 simp only [whatF]
 rw [if_pos]
 rw [ofN_app,if_neg (by simp),doneD,ofN_app,if_pos ⟨rfl,(by decide:(2:Int)≠4)⟩]
theorem laws_FnFroEnd_ok (l:List Int) (hpre:okU l):FunOK Tryz.prog 9 1 [] [(0,k1 (sU l))] (·=[(1,kB true)]):=by
 refine fun_to (E:=⟨tab,ctOf [impl_FroOk_c,laws_jaOk_c,impl_OpPlaces_c,spec_DrawFroBegin_c,impl_FroBegin_c,spec_FroBegin_c,impl_FroHear_c],125,[],[(0,[0]),(1,[0,20]),(2,[2]),(3,[3,4,5]),(4,[3,4,5,6,8]),(5,[3,4,5,6,8,11]),(6,[3,4,5,6,8,45]),(7,[2]),(8,[3,4,5,6,47]),(9,[2]),(10,[3,4,6,12,50]),(11,[3,4,6,12,13,50]),(12,[3,4,6,12,13,50,54]),(13,[3,4,6,12,13,50]),(14,[3,4,6,12,13,50]),(15,[3,4,6,14]),(16,[3,4,6,14,70]),(17,[3,4,6,14]),(18,[3,4,6,14]),(19,[3,6,16,82,86,88]),(20,[2])],[(0,⟨List Note×Int×List FTx×Nat,fun x=>[(3,⟨.box,[.c (.sh 72 (frozenRs (typ dNote eNoteO (begDr (List.take (2000:Nat) l)).fst.disk.notes))),.c (.n .i64 ((begDr (List.take (2000:Nat) l)).fst.disk.safe)),.c (.sh 36 (frozenRs (typ dFTx eFTxO (begDr (List.take (2000:Nat) l)).fst.way)))],[]⟩),(4,(k1 (.n .i64 ((begDr (List.take (2000:Nat) l)).snd.fst)))),(6,⟨.box,[.c (sNotes (x.1)),.c (.n .i64 (x.2.1)),.c (sFTxs (x.2.2.1))],[]⟩),(12,(k1 (.ow 3 (typ (0:Int) eI (placesL (begDr (List.take (2000:Nat) l)).snd.snd))))),(13,(k1 (.n .i64 (x.2.2.2:Int)))),(50,(k1 .any))]⟩),(2,⟨List Note×Int×List FTx×Nat,fun x=>[(3,⟨.box,[.c (.sh 72 (frozenRs (typ dNote eNoteO (begDr (List.take (2000:Nat) l)).fst.disk.notes))),.c (.n .i64 ((begDr (List.take (2000:Nat) l)).fst.disk.safe)),.c (.sh 36 (frozenRs (typ dFTx eFTxO (begDr (List.take (2000:Nat) l)).fst.way)))],[]⟩),(4,(k1 (.n .i64 ((begDr (List.take (2000:Nat) l)).snd.fst)))),(6,⟨.box,[.c (sNotes (x.1)),.c (.n .i64 (x.2.1)),.c (sFTxs (x.2.2.1))],[]⟩),(14,(k1 (.n .i64 (x.2.2.2:Int))))]⟩)],[(3,[(2,[23])]),(4,[(4,[31])]),(5,[(4,[39])]),(14,[(8,[65])]),(18,[(5,[78])]),(19,[(4,[86])]),(20,[(1000025,[])])],[],[]⟩) tab_ok mixed Tryz.func9 rfl Tryz.ntmps9 (rvs:=[.tmp 2]) Tryz.results9 rfl fun hl=>?_
 refine cast (show (let k_2:Prop:=(begDr (List.take n_2000 l)).2.1=(begDr (List.take n_2000 l)).2.1;let k_1:Prop:=cnRs (frozenRs (typ dNote eNoteO (begDr (List.take n_2000 l)).1.disk.notes))=cnRs (frozenRs (typ dNote eNoteO (begDr (List.take n_2000 l)).1.disk.notes))/\(begDr (List.take n_2000 l)).1.disk.safe=(begDr (List.take n_2000 l)).1.disk.safe/\cnRs (frozenRs (typ dFTx eFTxO (begDr (List.take n_2000 l)).1.way))=cnRs (frozenRs (typ dFTx eFTxO (begDr (List.take n_2000 l)).1.way));(decide ((zi l.length)>i_1048576)=true->true=true)/\(decide ((zi l.length)>i_1048576)=false->∃ (b:List Int),q_U l b/\okU b/\(∃ (b_1:Front×Int×Opr),((cnRs (frozenRs (typ dNote eNoteO (begDr (List.take n_2000 b)).1.disk.notes))=t_e b_1.1.disk.notes/\(begDr (List.take n_2000 b)).1.disk.safe=b_1.1.disk.safe/\cnRs (frozenRs (typ dFTx eFTxO (begDr (List.take n_2000 b)).1.way))=t_h b_1.1.way)/\(begDr (List.take n_2000 b)).2.1=b_1.2.1/\(begDr (List.take n_2000 b)).2.2.kind=b_1.2.2.kind/\(begDr (List.take n_2000 b)).2.2.who=b_1.2.2.who/\(begDr (List.take n_2000 b)).2.2.inn=b_1.2.2.inn/\(begDr (List.take n_2000 b)).2.2.code=b_1.2.2.code/\(begDr (List.take n_2000 b)).2.2.sec=b_1.2.2.sec/\(begDr (List.take n_2000 b)).2.2.fam=b_1.2.2.fam/\(begDr (List.take n_2000 b)).2.2.gen=b_1.2.2.gen)/\(∃ (b_2:Front×Int×Opr),((cnRs (frozenRs (typ dNote eNoteO (begDr (List.take n_2000 b)).1.disk.notes))=t_e b_2.1.disk.notes/\(begDr (List.take n_2000 b)).1.disk.safe=b_2.1.disk.safe/\cnRs (frozenRs (typ dFTx eFTxO (begDr (List.take n_2000 b)).1.way))=t_h b_2.1.way)/\(begDr (List.take n_2000 b)).2.1=b_2.2.1/\(begDr (List.take n_2000 b)).2.2.kind=b_2.2.2.kind/\(begDr (List.take n_2000 b)).2.2.who=b_2.2.2.who/\(begDr (List.take n_2000 b)).2.2.inn=b_2.2.2.inn/\(begDr (List.take n_2000 b)).2.2.code=b_2.2.2.code/\(begDr (List.take n_2000 b)).2.2.sec=b_2.2.2.sec/\(begDr (List.take n_2000 b)).2.2.fam=b_2.2.2.fam/\(begDr (List.take n_2000 b)).2.2.gen=b_2.2.2.gen)/\((if true=true then !(begB b_1.1 b_1.2.1 b_1.2.2).2.2==(begB b_2.1 b_2.2.1 b_2.2.2).2.2 else (begB b_1.1 b_1.2.1 b_1.2.2).2.2==(begB b_2.1 b_2.2.1 b_2.2.2).2.2)=true->false=true)/\((if true=true then !(begB b_1.1 b_1.2.1 b_1.2.2).2.2==(begB b_2.1 b_2.2.1 b_2.2.2).2.2 else (begB b_1.1 b_1.2.1 b_1.2.2).2.2==(begB b_2.1 b_2.2.1 b_2.2.2).2.2)=false->((!(begB b_1.1 b_1.2.1 b_1.2.2).2.2)=true->∃ (b:Unit),True/\true=true)/\((!(begB b_1.1 b_1.2.1 b_1.2.2).2.2)=false->∃ (b_3:Opr),((begDr (List.take n_2000 b)).2.2.kind=b_3.kind/\(begDr (List.take n_2000 b)).2.2.who=b_3.who/\(begDr (List.take n_2000 b)).2.2.inn=b_3.inn/\(begDr (List.take n_2000 b)).2.2.code=b_3.code/\(begDr (List.take n_2000 b)).2.2.sec=b_3.sec/\(begDr (List.take n_2000 b)).2.2.fam=b_3.fam/\(begDr (List.take n_2000 b)).2.2.gen=b_3.gen)/\(∃ (pre:y_22->Prop),∃ (μ:y_22->Nat),∃ (x0:y_22),((cnRs (frozenRs (typ dNote eNoteO (begDr (List.take n_2000 b)).1.disk.notes))=cnRs (frozenRs (typ dNote eNoteO (begDr (List.take n_2000 l)).1.disk.notes))/\(begDr (List.take n_2000 b)).1.disk.safe=(begDr (List.take n_2000 l)).1.disk.safe/\cnRs (frozenRs (typ dFTx eFTxO (begDr (List.take n_2000 b)).1.way))=cnRs (frozenRs (typ dFTx eFTxO (begDr (List.take n_2000 l)).1.way)))/\(begDr (List.take n_2000 b)).2.1=(begDr (List.take n_2000 l)).2.1/\(cnRs (frozenRs (typ dNote eNoteO (begB b_1.1 b_1.2.1 b_1.2.2).1.disk.notes))=t_e x0.1/\(begB b_1.1 b_1.2.1 b_1.2.2).1.disk.safe=x0.2.1/\cnRs (frozenRs (typ dFTx eFTxO (begB b_1.1 b_1.2.1 b_1.2.2).1.way))=t_h x0.2.2.1)/\q_I (placesL b_3) (placesL (begDr (List.take n_2000 l)).2.2)/\i_0=zi x0.2.2.2/\True)/\pre x0/\(∀ (x:y_22),pre x->(decide (zi x.2.2.2<(zi (placesL (begDr (List.take n_2000 l)).2.2).length))=true->(i_0<=zi x.2.2.2/\zi x.2.2.2<(zi (placesL (begDr (List.take n_2000 l)).2.2).length))/\(zi x.2.2.2).toNat<(placesL (begDr (List.take n_2000 l)).2.2).length/\(∃ (b:Front×Msg),((q_e x.1 b.1.disk.notes/\x.2.1=b.1.disk.safe/\q_h x.2.2.1 b.1.way)/\i_4=b.2.kind/\i_0=b.2.to/\g_Int (placesL (begDr (List.take n_2000 l)).2.2) x.2.2.2=b.2.frm/\(begDr (List.take n_2000 l)).2.1=b.2.tx/\i_0=b.2.op.kind/\i_0=b.2.op.who/\i_0=b.2.op.inn/\i_0=b.2.op.code/\i_0=b.2.op.sec/\i_0=b.2.op.fam/\i_0=b.2.op.gen)/\(∃ (y:y_22),(k_1/\k_2/\(cnRs (frozenRs (typ dNote eNoteO (hearB b.1 b.2).1.disk.notes))=t_e y.1/\(hearB b.1 b.2).1.disk.safe=y.2.1/\cnRs (frozenRs (typ dFTx eFTxO (hearB b.1 b.2).1.way))=t_h y.2.2.1)/\q_I (placesL (begDr (List.take n_2000 l)).2.2) (placesL (begDr (List.take n_2000 l)).2.2)/\wr_ ((zi x.2.2.2)+i_1)=zi y.2.2.2/\True)/\pre y/\μ y<μ x)))/\(decide (zi x.2.2.2<(zi (placesL (begDr (List.take n_2000 l)).2.2).length))=false->∃ (pre:y_22->Prop),∃ (μ:y_22->Nat),∃ (x0:y_22),(k_1/\k_2/\(q_e x.1 x0.1/\x.2.1=x0.2.1/\q_h x.2.2.1 x0.2.2.1)/\i_1=zi x0.2.2.2)/\pre x0/\(∀ (x:y_22),pre x->(decide (zi x.2.2.2<=i_3)=true->∃ (b:Front×Msg),((q_e x.1 b.1.disk.notes/\x.2.1=b.1.disk.safe/\q_h x.2.2.1 b.1.way)/\i_6=b.2.kind/\i_0=b.2.to/\zi x.2.2.2=b.2.frm/\(begDr (List.take n_2000 l)).2.1=b.2.tx/\i_0=b.2.op.kind/\i_0=b.2.op.who/\i_0=b.2.op.inn/\i_0=b.2.op.code/\i_0=b.2.op.sec/\i_0=b.2.op.fam/\i_0=b.2.op.gen)/\(∃ (y:y_22),(k_1/\k_2/\(cnRs (frozenRs (typ dNote eNoteO (hearB b.1 b.2).1.disk.notes))=t_e y.1/\(hearB b.1 b.2).1.disk.safe=y.2.1/\cnRs (frozenRs (typ dFTx eFTxO (hearB b.1 b.2).1.way))=t_h y.2.2.1)/\wr_ ((zi x.2.2.2)+i_1)=zi y.2.2.2)/\pre y/\μ y<μ x))/\(decide (zi x.2.2.2<=i_3)=false->∃ (b:Front×Msg),((q_e x.1 b.1.disk.notes/\x.2.1=b.1.disk.safe/\q_h x.2.2.1 b.1.way)/\i_7=b.2.kind/\i_0=b.2.to/\i_2=b.2.frm/\(begDr (List.take n_2000 l)).2.1=b.2.tx/\i_0=b.2.op.kind/\i_0=b.2.op.who/\i_0=b.2.op.inn/\i_0=b.2.op.code/\i_0=b.2.op.sec/\i_0=b.2.op.fam/\i_0=b.2.op.gen)/\((zi x.2.2.1.length==(zi (begDr (List.take n_2000 l)).1.way.length))=true->((zi x.1.length==wr_ ((zi (begDr (List.take n_2000 l)).1.disk.notes.length)+i_2))=true->(((zi (hearB b.1 b.2).2.1.length)==i_1)=true->(i_0<=i_0/\i_0<(zi (hearB b.1 b.2).2.1.length))/\((((hearB b.1 b.2).2.1.getD (Int.toNat i_0) dMsg).kind==i_2)=true->∃ (b:Front),(q_e x.1 b.disk.notes/\x.2.1=b.disk.safe/\q_h x.2.2.1 b.way)/\froB b=true)/\((((hearB b.1 b.2).2.1.getD (Int.toNat i_0) dMsg).kind==i_2)=false->false=true))/\(((zi (hearB b.1 b.2).2.1.length)==i_1)=false->false=true))/\((zi x.1.length==wr_ ((zi (begDr (List.take n_2000 l)).1.disk.notes.length)+i_2))=false->false=true))/\((zi x.2.2.1.length==(zi (begDr (List.take n_2000 l)).1.way.length))=false->false=true))))))))))))=_ by kernel_rfl) ?_
 delta i_0 i_1 i_2 i_3 i_4 wr_ g_Int zi t_I q_I t_U q_U n_2000 i_7 i_6 t_e q_e t_h q_h y_22 i_1048576
 simp (config:={ maxSteps:=2000000 }) only [zza,zzb,true_and,and_true,and_self,ne_eq,cI_app,cWrtO_app,cWrtS_app,cWrtO_1,cItemO_1,opr_ex,zcast,frz_nil,nil_map,wayEq_self,Option.getD_none,Option.getD_some,if_true]
 intro _
 refine ⟨hpre,?_⟩
 generalize (begDr (List.take 2000 l)).1=f
 generalize (begDr (List.take 2000 l)).2.1=tx
 generalize (begDr (List.take 2000 l)).2.2=o
 refine ⟨fun h=>by simp at h,fun _=>⟨fun _=>⟨(),trivial⟩,fun hy=>?_⟩⟩
 have hy:(begB f tx o).2.2=true:=by simpa only [Bool.not_eq_false'] using hy
 have hv:(froB f&&inR tx 0 29&&opOk o)=true:=by
  rcases Bool.eq_false_or_eq_true (froB f&&inR tx 0 29&&opOk o) with hv | hv
  ·exact hv
  ·simp only [begB,hv] at hy;cases hy
 have e:begB f tx o=beginF f tx o:=by simp only [begB,hv,if_true]
 simp only [Bool.and_eq_true] at hv
 obtain ⟨⟨h1,h2⟩,h3⟩:=hv
 have hf:=froB_iff.1 h1
 have ht:0<=tx/\tx<=29:=by simpa [inR] using h2
 have hn:¬ noBegin f tx:=fun hb=>by rw [e,beginF,if_pos hb] at hy;cases hy
 have hX:=begin_ok hf ht h3
 rw [begin_new hn] at hX
 have hpos:=places_pos h3
 have h3l:=places_len3 o
 rw [e,begin_new hn]
 have hw:=hf.wl
 have hnl:=(begin_free hf hn).2.2
 have hC0:(⟨f.disk,f.way++[⟨tx,o,false,[],[]⟩]⟩:Front)=canS f tx o 0:=by rw [canS,if_pos hpos]<;>rfl
 have hCn:canS f tx o (placesL o).length=knowS f tx o 0:=by rw [canS,if_neg (by omega),knowS,if_pos (by omega)]<;>rfl
 refine ⟨fun z=>(⟨⟨z.1,z.2.1⟩,z.2.2.1⟩:Front)=canS f tx o z.2.2.2/\z.2.2.2<=(placesL o).length/\okF (canS f tx o z.2.2.2),⟨hC0,by simp,?_⟩,fun z=>(placesL o).length-z.2.2.2,fun a1 a2 a3 b hb=>?_⟩
 ·show okF (canS f tx o 0)
  rw [<- hC0];exact hX
 simp only at hb
 obtain ⟨g1,g2,g3⟩:=hb
 rw [g1]
 refine ⟨fun hlt=>?_,fun hge=>?_⟩
 ·have hl:b<(placesL o).length:=by omega
  obtain ⟨c1,c2⟩:=endCan hf ht h3 hn hl g3
  refine ⟨by omega,hlt,hl,b+1,wrapN (by omega),?_,by simp only;omega⟩
  simp only [c1]
  exact ⟨by first | trivial | rfl,by omega,c2⟩
 obtain rfl:b=(placesL o).length:=by omega
 rw [hCn] at g1 g3
 refine ⟨fun z=>(⟨⟨z.1,z.2.1⟩,z.2.2.1⟩:Front)=knowS f tx o (z.2.2.2-1)/\1<=z.2.2.2/\z.2.2.2<=4/\okF (knowS f tx o (z.2.2.2-1)),fun z=>4-z.2.2.2,1,rfl,⟨g1,by simp,by simp,g3⟩,fun a1 a2 a3 b hb=>?_⟩
 simp only at hb
 obtain ⟨k1,k2,k3,k4⟩:=hb
 rw [k1]
 refine ⟨fun hlt=>?_,fun hge=>?_⟩
 ·obtain ⟨b,rfl⟩:∃ c,b=c+1:=⟨b-1,by omega⟩
  simp only [Nat.add_sub_cancel] at k4
  obtain ⟨c1,c2⟩:=endKnow hf ht hn (by omega:b<3) k4
  refine ⟨b+2,wrapN (by omega),?_,by simp only;omega⟩
  simp only [Nat.add_sub_cancel,c1]
  exact ⟨by first | trivial | rfl,by omega,by omega,c2⟩
 obtain rfl:b=4:=by omega
 simp only [Nat.reduceSub] at k1 k4 ⊢
 have hW:=endWhat (f:=f) (o:=o) ht k4
 rw [hW]
 have hk:knowS f tx o 3=⟨⟨(doneD f tx).notes++[⟨4,tx,[],[]⟩],(doneD f tx).safe⟩,f.way⟩:=by rw [knowS,if_neg (by omega)]
 rw [hk] at k1
 injection k1 with k5 k6
 injection k5 with k7 k8
 subst k6 k7 k8
 refine ⟨fun _=>⟨fun _=>⟨fun _=>⟨by omega,by simp [sendF],fun _=>?_,fun h=>?_⟩,fun h=>?_⟩,fun h=>?_⟩,fun h=>absurd rfl h⟩
 ·first | exact froB_iff.2 k4 | (rw [<- hk];exact froB_iff.2 k4)
 ·exact absurd rfl h
 ·exact absurd rfl h
 ·refine absurd ?_ h
  rw [IntWalk.i64_in _ (by omega)];simp [doneD]
end Go.Proofs.AI
