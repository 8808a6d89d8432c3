/- What the function of this law does, in data. Conditions: none. -/
import Derived.KernelRfl
import Derived.IntWalk
import Derived.Test.YthahcnabgjgpfaaGreatDoorProg
import Derived.ArgAppend
import Derived.Deep.AppendSrc
import Derived.Laws.IdiomCopy
import Derived.Shelf.SlicesE.DeleteFunc
import Derived.Test.YthahcnabgjgpfaaGreatDoorShelf
import Derived.Test.YthahcnabgjgpfaaGreatDoorK04
namespace Go.Proofs.AI
open Go.RowKit
set_option linter.unusedVariables false
set_option linter.unusedSimpArgs false
theorem wayEq_self (p:Way):wayEq p p↔True:=⟨fun _=>trivial,fun _=>rfl⟩
end Go.Proofs.AI
namespace Go.Proofs.AI
open Go.RowKit Go.Proofs
set_option linter.unusedVariables false
set_option linter.unusedSimpArgs false
set_option maxRecDepth 100000
theorem ext_getD {α:Type} {xs ys:List α} {d:α} (hl:xs.length=ys.length) (h:∀ j,j<xs.length->xs.getD j d=ys.getD j d):xs=ys:=by
 refine List.ext_getElem hl fun j h1 h2=>?_
 have:=h j h1
 rwa [getD_lt h1,getD_lt h2] at this
abbrev y_32:Type:=List Msg×List Msg
abbrev y_33:Type:=Nat×Nat×Int×Int×Int×Int×Int×Int×Int×Int×Bool×List Int×List Int×Nat
end Go.Proofs.AI
namespace Go.Proofs.AI
open Go.RowKit Go.Proofs
set_option linter.unusedVariables false
set_option linter.unusedSimpArgs false
set_option maxRecDepth 100000
theorem opr_ex' {o:Opr} {P:Opr->Prop}:(∃ x:Opr,(o.kind=x.kind/\o.who=x.who/\o.inn=x.inn/\o.code=x.code/\o.sec=x.sec/\o.fam=x.fam/\o.gen=x.gen)/\P x)↔P o :=
 ⟨fun ⟨x,⟨h1,h2,h3,h4,h5,h6,h7⟩,h⟩=>by cases o;cases x;simp_all,fun h=>⟨o,⟨rfl,rfl,rfl,rfl,rfl,rfl,rfl⟩,h⟩⟩
theorem impl_OpPlaces_ok (o:Opr):FunOK Tryz.prog 33 1 [] [(0,kOp o)] (·=[(1,k1 (oI (placesL o)))]):=by
 refine fun_to (E:=⟨tab,ctOf [impl_OpOk_c],23,[],[(0,[1,11,21,22]),(1,[1,3,11,21,22]),(2,[2,11,21,22]),(3,[1,7,11,21,22]),(4,[2,11,21,22]),(5,[11,12,21,22]),(6,[2,11,21,22]),(7,[2,11,21,22])],[],[],[],[]⟩) tab_ok mixed Tryz.func33 rfl Tryz.ntmps33 (rvs:=[.tmp 2]) Tryz.results33 rfl fun hl=>?_
 refine cast (show (let k_1:Prop:=cnRs (typ i_0 (fun (y:Int)=>[cn_ y]) [i_1,i_2,i_3])=t_I (placesL o);∃ (b:Opr),(o.kind=b.kind/\o.who=b.who/\o.inn=b.inn/\o.code=b.code/\o.sec=b.sec/\o.fam=b.fam/\o.gen=b.gen)/\((!opOk b)=true->(placesL o).length=n_0)/\((!opOk b)=false->((o.kind==i_1)=true->cnRs (typ i_0 (fun (y:Int)=>[cn_ y]) [i_1,i_3])=t_I (placesL o))/\((o.kind==i_1)=false->((o.kind==i_2)=false->((o.kind==i_5)=true->k_1)/\((o.kind==i_5)=false->cnRs (typ i_0 (fun (y:Int)=>[cn_ y]) [i_2,i_3])=t_I (placesL o)))/\((o.kind==i_2)=true->k_1))))=_ by kernel_rfl) ?_
 delta i_0 i_1 i_5 i_2 i_3 t_I n_0 cn_
 simp only [opr_ex',placesL]
 repeat' (first | apply And.intro | intro)
 all_goals (simp_all)
def impl_OpPlaces_c:Con Tryz.prog:=con0 [.lend] fun b:Opr=>impl_OpPlaces_ok b
end Go.Proofs.AI
namespace Go.Proofs.AI
open Go.RowKit Go.Proofs
set_option linter.unusedVariables false
set_option linter.unusedSimpArgs false
set_option maxRecDepth 100000
theorem slices_Clone_int_ok (vs:List Int) (hpre:0<vs.length/\vs.length<=1000):FunOK Tryz.prog 117 1 [] [(0,k1 (sI vs))] (·=[(1,k1 (oI vs))]):=by
 refine fun_to (E:=⟨tab,ctOf [],8,[],[(0,[0,5,6,7]),(1,[0,4,5,6,7]),(2,[0,2,5,6,7]),(3,[0,2,5,6,7])],[],[],[],[]⟩) tab_ok mixed Tryz.func117 rfl Tryz.ntmps117 (rvs:=[.tmp 2]) Tryz.results117 rfl fun hl=>?_
 refine cast (show (n_0<vs.length/\((if false=true then true else false)=true->vs.length=n_0)/\((if false=true then true else false)=false->(n_0+vs.length)*n_8<=n_140737488355328/\cnRs (appR (raw []) (typ i_0 eI vs))=t_I vs))=_ by kernel_rfl) ?_
 delta i_0 t_I n_0 n_8 n_140737488355328
 simp only [zza,true_and,and_true,and_self,ne_eq,cI_app,cWrtO_app,cWrtS_app,cWrtO_1,cItemO_1,opr_ex,zcast,frz_nil,nil_map]
 refine ⟨hpre.1,fun h=>by simp at h,fun _=>⟨by omega,?_⟩⟩
 simp [cI]
end Go.Proofs.AI
namespace Go.Proofs.AI
open Go.RowKit
set_option linter.unusedVariables false
set_option linter.unusedSimpArgs false
theorem cell_of {w:World} {g:Nat} {cur:Array Value} {e:TypeId} (h:w.heap[g]?=some (.cells cur e (0,0))) (q:Nat):w.cell? ⟨g,q,none⟩=cur[q]?:=by
 simp [World.cell?,h]
theorem frozen_of {w:World} {g:Nat} {cur:Array Value} {e:TypeId} (h:w.heap[g]?=some (.cells cur e (0,0))) (q:Nat):w.frozen? ⟨g,q,none⟩=false:=by
 simp [World.frozen?,h]
section
variable {P:Program}
end
theorem rel_ret {P:Program} {m:Nat} {w w':World} {F0:CP} {I0:Nat->Prop} {args:Array Value} {ins:L} {I:Nat->Prop} {U:Nat->Nat->Value} {B:Nat->Nat×Nat} {F:Nat->FP} (hr:RelW ⟨P,m,w,F0,I0,[],#[]⟩ I U B F (mk ins) ⟨args,[]⟩ w)
  {y:CV} {v:Value} {N:FP} (hy:Rep P w' I y v N) (hN:∀ b,N b->b<w'.heap.size/\¬ I b/\(w.heap.size<=b∨∀ q,F0 b q)) (hf:Fr w w' F0) :
  Rel ⟨P,m+1,w,F0,I0,[],args⟩ (mk [(m,⟨.one,[.c y],[]⟩)]) ⟨args.push v,[]⟩ w':=by
 have hsz:args.size=m:=hr.size
 refine ⟨I,fun _ _=>v,fun _=>(0,0),fun t=>if t=m then N else FP.none,⟨by simp [hsz],rfl,fun t K hK=>?_,fun t t' b h1 h2=>?_,fun t b hb=>?_,fun t b hb=>?_,fun b hb=>Nat.lt_of_lt_of_le (hr.ro b hb) hf.size,hr.ro0,hr.roN,hf⟩⟩
 ·simp only [mk,up] at hK
  split at hK
  ·rename_i ht
   subst ht;cases hK
   refine ⟨Nat.lt_succ_self _,⟨⟨fun _ _=>hy.one,rfl,?_⟩,⟨fun o=>if o=0 then N else FP.none,fun o x hx=>?_,fun o o' b h1 h2=>?_,fun o b hb=>?_⟩,fun b hb=>by cases hb.1⟩⟩
   ·show (args.push v).getD t undef=v
    rw [<- hsz];simp [Array.getD_eq_getD_getElem?]
   ·cases o with
    | zero=>simp at hx;subst hx;exact hy
    | succ o=>simp at hx
   ·by_cases e1:o=0<;>by_cases e2:o'=0
    ·omega
    ·simp [e2,FP.none] at h2
    ·simp [e1,FP.none] at h1
    ·simp [e1,FP.none] at h1
   ·by_cases e1:o=0
    ·simp [e1] at hb;exact ⟨by simpa using hb,fun hr=>by cases hr.1⟩
    ·simp [e1,FP.none] at hb
  ·cases hK
 ·by_cases e1:t=m<;>by_cases e2:t'=m
  ·rw [e1,e2]
  ·simp [e2,FP.none] at h2
  ·simp [e1,FP.none] at h1
  ·simp [e1,FP.none] at h1
 ·by_cases e1:t=m
  ·simp [e1] at hb;exact ⟨(hN b hb).1,(hN b hb).2.1⟩
  ·simp [e1,FP.none] at hb
 ·by_cases e1:t=m
  ·simp [e1] at hb;exact (hN b hb).2.2.imp id .inl
  ·simp [e1,FP.none] at hb
end Go.Proofs.AI
namespace Go.Proofs.AI
open Go.RowKit Go.Proofs
set_option linter.unusedVariables false
set_option linter.unusedSimpArgs false
set_option maxRecDepth 100000
theorem ent_of {P:Program} {f:FuncId} {fn:Func} {c:Code} (hf:P.funcs[f]?=some fn) (hb:fn.body=some c) (hn:(fn.name=="runtime.NumGoroutine")=false) (args:Array Value) (w:World):(callFunc f args).run P w=.ok (.enter f args) w:=by
 have hn':fn.name≠"runtime.NumGoroutine":=by simpa using hn
 simp [callFunc,program,Sem.run,hf,hn',hb]
end Go.Proofs.AI
namespace Go.Proofs.AI
open Go.RowKit Go.Proofs
set_option linter.unusedVariables false
set_option linter.unusedSimpArgs false
set_option maxRecDepth 100000
theorem len_ne {m n:Nat} (h:((m:Int) != (n:Int))=false):m=n:=by
 simp [bne] at h;omega
theorem laws_jaIn_ok (xs:List Int) (n:Int):FunOK Tryz.prog 32 2 [] [(0,k1 (sI xs)),(1,kI n)] (·=[(2,kB (xs.any fun x=>x==n))]):=by
 refine fun_to (E:=⟨tab,ctOf [],18,[],[(0,[0,1]),(1,[0,1,5]),(2,[0,1,5,9]),(3,[0,1,5]),(4,[0,1,5,17]),(5,[4]),(6,[4])],[(0,⟨Nat,fun x=>[(0,(k1 (.sh 3 (typ (0:Int) eI xs)))),(1,(k1 (.n .i64 n))),(5,(k1 (.n .i64 (x:Int))))]⟩)],[],[],[]⟩) tab_ok mixed Tryz.func32 rfl Tryz.ntmps32 (rvs:=[.tmp 4]) Tryz.results32 rfl fun hl=>?_
 refine cast (show (∃ (pre:Nat->Prop),∃ (μ:Nat->Nat),∃ (x0:Nat),(q_I xs xs/\n=n/\i_0=zi x0)/\pre x0/\∀ (x:Nat),pre x->(decide (zi x<zi xs.length)=true->(i_0<=zi x/\zi x<zi xs.length)/\((g_Int xs x==n)=true->true=xs.any fun (x:Int)=>x==n)/\((g_Int xs x==n)=false->∃ (y:Nat),(q_I xs xs/\n=n/\wr_ ((zi x)+i_1)=zi y)/\pre y/\μ y<μ x))/\(decide (zi x<zi xs.length)=false->false=xs.any fun (x:Int)=>x==n))=_ by kernel_rfl) ?_
 delta i_0 i_1 wr_ g_Int zi t_I q_I
 have hx:xs.length<=9223372036854775807:=hl.1 _ (List.mem_singleton.2 rfl)
 simp only [zza,true_and,and_true,and_self,ne_eq,cI_app,cWrtO_app,cWrtS_app,cWrtO_1,cItemO_1,opr_ex,zcast,frz_nil,nil_map]
 refine ⟨fun i=>i<=xs.length/\∀ j,j<i->(xs.getD j 0==n)=false,⟨by omega,fun j hj=>absurd hj (Nat.not_lt_zero _)⟩,fun i=>xs.length-i,fun i hp=>?_⟩
 obtain ⟨h1,h2⟩:=hp
 refine ⟨fun hlt=>⟨by omega,hlt,fun e=>?_,fun e=>⟨i+1,wrapN (by omega),⟨by omega,below_succ h2 (by simpa using e)⟩,by simp only;omega⟩⟩,fun hge=>?_⟩
 ·exact (any_hit (p:=fun x=>x==n) (d:=0) (i:=i) (by omega) (by simpa using e)).symm
 ·exact (any_miss (p:=fun x=>x==n) (d:=0) fun j hj=>h2 j (by omega)).symm
def laws_jaIn_c:Con Tryz.prog:=con0 [.lend,.lend] fun b:List Int×Int=>laws_jaIn_ok (b.1) (b.2)
end Go.Proofs.AI
namespace Go.Proofs.AI
open Go.RowKit Go.Proofs
set_option linter.unusedVariables false
set_option linter.unusedSimpArgs false
set_option maxRecDepth 100000
theorem impl_MsgOk_ok (m:Msg):FunOK Tryz.prog 34 1 [] [(0,kMsg m)] (·=[(1,kB (msgB m))]):=by
 refine fun_to (E:=⟨tab,ctOf [impl_isTx_c,impl_OpOk_c,impl_in_c,impl_isService_c],46,[],[(0,[1]),(1,[1,3,4]),(2,[1,3,4,12]),(3,[1,3,4]),(4,[1,3,4,5]),(5,[1,3,4,5,23]),(6,[1,3,4,5]),(7,[2])],[],[],[],[]⟩) tab_ok mixed Tryz.func34 rfl Tryz.ntmps34 (rvs:=[.tmp 2]) Tryz.results34 rfl fun hl=>?_
 refine cast (show (let k_3:Prop:=(m.to==i_0)=false->false=msgB m;let k_2:Prop:=(m.frm==i_0)=false->false=msgB m;let k_1:Prop:=∃ (b:Int),m.tx=b/\(inR b i_0 i_29=true->(if false=true then !(m.op.kind==i_0&&(m.op.who==i_0&&(m.op.inn==i_0&&(m.op.code==i_0&&(m.op.sec==i_0&&(m.op.fam==i_0&&m.op.gen==i_0)))))) else m.op.kind==i_0&&(m.op.who==i_0&&(m.op.inn==i_0&&(m.op.code==i_0&&(m.op.sec==i_0&&(m.op.fam==i_0&&m.op.gen==i_0))))))=msgB m)/\(inR b i_0 i_29=false->false=msgB m);∃ (b:Int×Int×Int),(m.kind=b.1/\i_4=b.2.1/\i_7=b.2.2)/\(inR b.1 b.2.1 b.2.2=true->((m.kind==i_1)=true->∃ (b:Opr),(m.op.kind=b.kind/\m.op.who=b.who/\m.op.inn=b.inn/\m.op.code=b.code/\m.op.sec=b.sec/\m.op.fam=b.fam/\m.op.gen=b.gen)/\(∃ (b_1:Int×Int×Int),(m.kind=b_1.1/\i_1=b_1.2.1/\i_7=b_1.2.2)/\(inR b_1.1 b_1.2.1 b_1.2.2=true->∃ (b_2:Int),m.frm=b_2/\(inR b_2 i_1 i_3=true->((m.to==i_0)=true->∃ (b_3:Int),m.tx=b_3/\(inR b_3 i_0 i_29=true->opOk b=msgB m)/\(inR b_3 i_0 i_29=false->false=msgB m))/\k_3)/\(inR b_2 i_1 i_3=false->false=msgB m))/\(inR b_1.1 b_1.2.1 b_1.2.2=false->false=msgB m)))/\((m.kind==i_1)=false->∃ (b:Int×Int×Int),(m.kind=b.1/\i_1=b.2.1/\i_7=b.2.2)/\(inR b.1 b.2.1 b.2.2=true->∃ (b:Int),m.frm=b/\(inR b i_1 i_3=true->((m.to==i_0)=true->k_1)/\k_3)/\(inR b i_1 i_3=false->false=msgB m))/\(inR b.1 b.2.1 b.2.2=false->false=msgB m)))/\(inR b.1 b.2.1 b.2.2=false->((m.kind==i_1)=true->∃ (b:Opr),(m.op.kind=b.kind/\m.op.who=b.who/\m.op.inn=b.inn/\m.op.code=b.code/\m.op.sec=b.sec/\m.op.fam=b.fam/\m.op.gen=b.gen)/\(∃ (b_1:Int×Int×Int),(m.kind=b_1.1/\i_1=b_1.2.1/\i_7=b_1.2.2)/\(inR b_1.1 b_1.2.1 b_1.2.2=true->∃ (b_2:Int),m.to=b_2/\(inR b_2 i_1 i_3=true->((m.frm==i_0)=true->∃ (b_3:Int),m.tx=b_3/\(inR b_3 i_0 i_29=true->opOk b=msgB m)/\(inR b_3 i_0 i_29=false->false=msgB m))/\k_2)/\(inR b_2 i_1 i_3=false->false=msgB m))/\(inR b_1.1 b_1.2.1 b_1.2.2=false->false=msgB m)))/\((m.kind==i_1)=false->∃ (b:Int×Int×Int),(m.kind=b.1/\i_1=b.2.1/\i_7=b.2.2)/\(inR b.1 b.2.1 b.2.2=true->∃ (b:Int),m.to=b/\(inR b i_1 i_3=true->((m.frm==i_0)=true->k_1)/\k_2)/\(inR b i_1 i_3=false->false=msgB m))/\(inR b.1 b.2.1 b.2.2=false->false=msgB m))))=_ by kernel_rfl) ?_
 delta i_0 i_1 i_3 i_4 i_7 i_29
 simp only [zza,zzb,true_and,and_true,and_self,ne_eq,cI_app,cWrtO_app,cWrtS_app,cWrtO_1,cItemO_1,opr_ex,zcast,frz_nil,nil_map,Option.getD_none,Option.getD_some,opr_dz,Bool.false_eq_true,if_false]
 repeat' first | (with_reducible apply And.intro) | (with_reducible intro h)
 all_goals (rw [Bool.eq_iff_iff];simp_all [msgB,inR];try omega)
 all_goals (intro _ _ _;split<;>omega)
def impl_MsgOk_c:Con Tryz.prog:=con0 [.lend] fun b:Msg=>impl_MsgOk_ok b
end Go.Proofs.AI
namespace Go.Proofs.AI
open Go.RowKit Go.Proofs
set_option linter.unusedVariables false
set_option linter.unusedSimpArgs false
theorem FunOK.sh0 {P:Program} {f:FuncId} {post:L->Prop} {e:TypeId} {es:Rows CV} (h0:es.n=0)
  (h:∀ (A:Option Addr) (c:Nat),FunOK P f 1 [] [(0,⟨.one,[.c (.vl (.slice A 0 c))],[]⟩)] post):FunOK P f 1 [] [(0,⟨.one,[.c (.sh e es)],[]⟩)] post:=by
 intro F0 I0 args w hs ⟨I,U,B,F,hr⟩
 obtain ⟨k1,hroot,⟨N,n1,n2,n3⟩,k4⟩:=hr.key 0 ⟨.one,[.c (.sh e es)],[]⟩ (by simp [mk,up])
 have hrep:Rep P w I (.sh e es) (U 0 0) (N 0):=n1 0 _ rfl
 obtain ⟨A,c,us,hv,_⟩:=hrep.sh_inv
 rw [h0] at hv
 refine h A c F0 I0 args w hs ⟨I,U,B,F,{ hr with key:=fun t K hK=>?_,may:=fun t b hb=>?_ }⟩
 ·simp only [mk,up] at hK
  split at hK
  ·rename_i ht
   subst ht;cases hK
   refine ⟨k1,hroot.any rfl rfl,⟨N,fun o x hx=>?_,n2,fun o b hb=>⟨(n3 o b hb).1,fun q=>by cases q.1⟩⟩,fun b hb=>by cases hb.1⟩
   cases o with
   | zero =>
    simp at hx;subst hx
    show Rep P w I (.vl (.slice A 0 c)) (U 0 0) (N 0)
    rw [hv];exact .vl rfl
   | succ o=>simp at hx
  ·cases hK
 ·rcases hr.may t b hb with h1 | h1 | ⟨K,h1,h2,_⟩
  ·exact .inl h1
  ·exact .inr (.inl h1)
  ·simp only [mk,up] at h1
   split at h1
   ·cases h1;cases h2.1
   ·cases h1
end Go.Proofs.AI
namespace Go.Proofs.AI
open Go.RowKit Go.Proofs
set_option linter.unusedVariables false
set_option linter.unusedSimpArgs false
set_option maxRecDepth 100000
theorem CloneIz_ok (A:Option Addr) (q:Nat):FunOK Tryz.prog 117 1 [] [(0,k1 (.vl (.slice A 0 q)))] (·=[(1,k1 (oI []))]):=by
 refine fun_to (E:=⟨tab,ctOf [],8,[],[(0,[0,5,6,7]),(1,[0,4,5,6,7]),(2,[0,2,5,6,7]),(3,[0,2,5,6,7])],[],[],[],[]⟩) tab_ok mixed Tryz.func117 rfl Tryz.ntmps117 (rvs:=[.tmp 2]) Tryz.results117 rfl fun hl=>?_
 refine cast (show (True/\((if false=true then !A.isNone else A.isNone)=true->n_0=n_0)/\((if false=true then !A.isNone else A.isNone)=false->(n_0+n_0)*n_8<=n_140737488355328/\cnRs (appR (raw []) nilR)=t_I []))=_ by kernel_rfl) ?_
 delta t_I n_0 n_8 n_140737488355328
 simp only [zza,zzb,true_and,and_true,and_self,ne_eq,cI_app,cWrtO_app,cWrtS_app,cWrtO_1,cItemO_1,opr_ex,zcast,frz_nil,nil_map,Option.getD_none,Option.getD_some]
 cases A<;>simp
theorem CloneI_ok (xs:List Int) (hpre:xs.length<=1000):FunOK Tryz.prog 117 1 [] [(0,k1 (sI xs))] (·=[(1,k1 (oI xs))]):=by
 rcases Nat.eq_zero_or_pos xs.length with h | h
 ·obtain rfl:=List.length_eq_zero_iff.1 h
  exact FunOK.sh0 rfl CloneIz_ok
 ·exact slices_Clone_int_ok xs ⟨h,hpre⟩
def CloneI_c:Con Tryz.prog:=conP [.lend] fun (b:List Int) h=>CloneI_ok b h
end Go.Proofs.AI
namespace Go.Proofs.AI
open Go.RowKit
set_option linter.unusedVariables false
set_option linter.unusedSimpArgs false
def eqFs2 (P:Program):List CK->Nat->List Field->Bool
 | ks,_,[]=>ks.isEmpty
 | ks,j,f::fs=>(f.name != "_")&&f.offset==j&&match P.underlying f.type with
  | some (.struct gs)=>!P.stoodInHeld f.type&&decide (gs.size<=ks.length)&&decide ((P.info? f.type).map (·.size)=some gs.size)&&eqFs P (ks.take gs.size) 0 gs.toList&&eqFs2 P (ks.drop gs.size) (j+gs.size) fs
  | u=>match ks with
   | k::ks=>ckOf u k&&eqFs2 P ks (j+1) fs
   | []=>false
theorem areCK_app:∀ {ks ks':List CK} {xs:List Value},areCK (ks++ks') xs->areCK ks (xs.take ks.length)/\areCK ks' (xs.drop ks.length)
 | [],_,_,h=>⟨trivial,h⟩
 | _::_,_,[],h=>h.elim
 | _::ks,_,_::xs,h=>⟨⟨h.1,(areCK_app h.2).1⟩,(areCK_app h.2).2⟩
theorem eqL_app:∀ {a b:List Value} {c d:List Value},a.length=b.length->c.length=d.length->eqL (a++c) (b++d)=(eqL a b&&eqL c d)
 | [],[],c,d,_,_=>by simp [eqL]
 | x::a,y::b,c,d,h,h2=>by
  have h:a.length=b.length:=by simpa using h
  rw [List.cons_append,List.cons_append,eqL_cons (by simp [h,h2]),eqL_cons h,eqL_app h h2,Bool.and_assoc]
theorem run_eqFields2 {P:Program} {w:World} {xs ys:Array Value} (d:Nat):∀ (fs:List Field) (ks:List CK) (j:Nat) (a b:List Value),eqFs2 P ks j fs=true->xs.toList.drop j=a->ys.toList.drop j=b->areCK ks a->areCK ks b ->
  (Op.eqFields (d+2) xs ys fs).run P w=.ok (eqL a b) w
 | [],ks,j,a,b,h,hx,hy,ha,hb=>by
  have hk:ks=[]:=by simpa [eqFs2] using h
  subst hk
  cases a with
  | cons x a=>exact ha.elim
  | nil=>cases b with
   | cons y b=>exact hb.elim
   | nil=>simp [Op.eqFields,eqL]
 | f::fs,ks,j,a,b,h,hx,hy,ha,hb=>by
  simp only [eqFs2,Bool.and_eq_true,bne_iff_ne,beq_iff_eq] at h
  obtain ⟨⟨h1,h2⟩,h3⟩:=h
  split at h3
  ·rename_i gs hu
   simp only [Bool.and_eq_true,Bool.not_eq_true',decide_eq_true_eq] at h3
   obtain ⟨⟨⟨⟨g1,g2⟩,g3⟩,g4⟩,g5⟩:=h3
   obtain ⟨inf,e1,e2⟩:=Option.map_eq_some_iff.1 g3
   have hl:(ks.take gs.size).length=gs.size:=by rw [List.length_take];omega
   have hka:areCK (ks.take gs.size++ks.drop gs.size) a:=by rw [List.take_append_drop];exact ha
   have hkb:areCK (ks.take gs.size++ks.drop gs.size) b:=by rw [List.take_append_drop];exact hb
   obtain ⟨a1,a2⟩:=areCK_app hka
   obtain ⟨b1,b2⟩:=areCK_app hkb
   rw [hl] at a1 a2 b1 b2
   have hp:∀ (zs:Array Value) (c:List Value),zs.toList.drop j=c->(part f.type zs f.offset).run P w=.ok (.agg (zs.extract j (j+gs.size))) w:=fun zs c _=>by
    have hs:(sizeOf f.type).run P w=.ok gs.size w:=by simp [sizeOf,typeInfo,e1,e2]
    simp [part,isAgg,run_underlying hu,TypeDesc.isRow,h2,hs]
   have hxs:(xs.extract j (j+gs.size)).toList=a.take gs.size:=by simp [<- hx]
   have hys:(ys.extract j (j+gs.size)).toList=b.take gs.size:=by simp [<- hy]
   have hf:P.fieldsOf f.type=gs:=by simp [Program.fieldsOf,hu]
   have he:(Op.equalIn (d+2) f.type (.agg (xs.extract j (j+gs.size))) (.agg (ys.extract j (j+gs.size)))).run P w=.ok (eqL (a.take gs.size) (b.take gs.size)) w:=by
    rw [run_equalIn_struct w (d+1) f.type _ _ (by rw [hf];exact hu) g1,hf]
    exact run_eqFields d _ 0 gs.toList _ _ g4 (by simpa using hxs) (by simpa using hys) a1 b1
   have la:=areCK_length a1
   have lb:=areCK_length b1
   have la2:=areCK_length a2
   have lb2:=areCK_length b2
   have hab:eqL a b=(eqL (a.take gs.size) (b.take gs.size)&&eqL (a.drop gs.size) (b.drop gs.size)):=by
    rw [<- eqL_app (by omega) (by omega),List.take_append_drop,List.take_append_drop]
   rw [hab]
   simp only [Op.eqFields,h1,ne_eq,not_false_eq_true,if_true,Sem.run_bind,hp xs a hx,hp ys b hy,Result.andThen_ok,he]
   cases hc:eqL (a.take gs.size) (b.take gs.size)
   ·simp
   ·simpa using run_eqFields2 d fs (ks.drop gs.size) (j+gs.size) (a.drop gs.size) (b.drop gs.size) g5 (by rw [<- hx,List.drop_drop]) (by rw [<- hy,List.drop_drop]) a2 b2
  ·cases ks with
   | nil=>cases h3
   | cons k ks =>
    simp only [Bool.and_eq_true] at h3
    obtain ⟨h3,h4⟩:=h3
    cases a with
    | nil=>exact ha.elim
    | cons x a=>cases b with
     | nil=>exact hb.elim
     | cons y b =>
      have gx:xs[j]?=some x:=by
       have:=congrArg (·[0]?) hx
       simpa using this
      have gy:ys[j]?=some y:=by
       have:=congrArg (·[0]?) hy
       simpa using this
      have dx:xs.toList.drop (j+1)=a:=by rw [<- List.drop_drop,hx]<;>rfl
      have dy:ys.toList.drop (j+1)=b:=by rw [<- List.drop_drop,hy]<;>rfl
      have hl:a.length=b.length:=by rw [<- areCK_length ha.2,<- areCK_length hb.2]
      rw [eqL_cons hl]
      simp only [Op.eqFields,h1,ne_eq,not_false_eq_true,if_true,Sem.run_bind,h2,run_part_ck h3 gx,run_part_ck h3 gy,Result.andThen_ok,run_eq_ck h3 ha.1 hb.1 (d+1)]
      cases hc:eqC x y
      ·simp
      ·simpa using run_eqFields2 d fs ks (j+1) a b h4 dx dy ha.2 hb.2
def eqT2 (P:Program) (t:TypeId) (ks:List CK):Bool:=!P.stoodInHeld t&&!P.eqGuardType P.depth t&&match P.underlying t with
 | some (.struct fs)=>eqFs2 P ks 0 fs.toList
 | _=>false
theorem eqT2_ok {P:Program} {t:TypeId} {ks:List CK} (h:eqT2 P t ks=true) (w:World) (xs ys:Array Value) (ex ey:Operand) (hx:areCK ks xs.toList) (hy:areCK ks ys.toList) :
  (do eqGuard .eql t ex ey (.agg xs) (.agg ys);binOp .eql t (.agg xs) (.agg ys):Sem Value).run P w=.ok (.bool (eqL xs.toList ys.toList)) w /\
  (do eqGuard .neq t ex ey (.agg xs) (.agg ys);binOp .neq t (.agg xs) (.agg ys):Sem Value).run P w=.ok (.bool (!eqL xs.toList ys.toList)) w:=by
 simp only [eqT2,Bool.and_eq_true,Bool.not_eq_true'] at h
 obtain ⟨⟨h1,h2⟩,h3⟩:=h
 split at h3
 ·rename_i fs hu
  have hf:P.fieldsOf t=fs:=by simp [Program.fieldsOf,hu]
  have he:(Op.equalIn 10000 t (.agg xs) (.agg ys)).run P w=.ok (eqL xs.toList ys.toList) w:=by
   rw [run_equalIn_struct w 9999 t xs ys (by rw [hf];exact hu) h1,hf]
   exact run_eqFields2 9997 fs.toList ks 0 _ _ h3 rfl rfl hx hy
  constructor
  ·simp only [Sem.run_bind,run_eqGuard_agg _ _ _ _ _ _ _ h2,Result.andThen_ok,run_eql_struct,he]
  ·simp only [Sem.run_bind,run_eqGuard_agg _ _ _ _ _ _ _ h2,Result.andThen_ok,run_neq_struct,he]
 ·cases h3
theorem tabOf_eq2 {P:Program} {t:TypeId} {i:TyI} (h:tabOf P t=some { i with els:=[],eq:=[] }) (he:eqT2 P t i.eq=true):TyOk P t i:=by
 have:=tabOf_ok t _ h
 exact ⟨this.info,fun hne w xs ys ex ey h1 h2=>eqT2_ok he w xs ys ex ey h1 h2,this.desc⟩
end Go.Proofs.AI
namespace Go.Proofs.AI
open Go.RowKit Go.Proofs
set_option linter.unusedVariables false
set_option linter.unusedSimpArgs false
set_option maxRecDepth 100000
def tabM:Tab:=fun t=>if t=63 then some ⟨.st,11,88,[(0,1,false),(1,1,false),(2,1,false),(3,1,false),(4,7,true)],[.int .i64 0,.int .i64 0,.int .i64 0,.int .i64 0,.int .i64 0,.int .i64 0,.int .i64 0,.int .i64 0,.int .i64 0,.int .i64 0,.int .i64 0],[.n .i64,.n .i64,.n .i64,.n .i64,.n .i64,.n .i64,.n .i64,.n .i64,.n .i64,.n .i64,.n .i64],[]⟩ else tab t
theorem tabM_ok:TabOk Tryz.prog tabM:=by
 intro t i h
 unfold tabM at h
 split at h
 ·rename_i ht;subst ht;cases h;exact tabOf_eq2 rfl (by kernel_rfl)
 ·exact tab_ok t i h
theorem msgEq (x y:Msg):(x.kind==y.kind&&(x.to==y.to&&(x.frm==y.frm&&(x.tx==y.tx&&(x.op.kind==y.op.kind&&(x.op.who==y.op.who&&(x.op.inn==y.op.inn&&(x.op.code==y.op.code&&(x.op.sec==y.op.sec&&(x.op.fam==y.op.fam&&x.op.gen==y.op.gen))))))))))=decide (x=y):=by
 rw [Bool.eq_iff_iff]
 simp only [Bool.and_eq_true,beq_iff_eq,decide_eq_true_eq]
 constructor
 ·rintro ⟨h1,h2,h3,h4,h5,h6,h7,h8,h9,h10,h11⟩
  obtain ⟨_,_,_,_,⟨_,_,_,_,_,_,_⟩⟩:=x;obtain ⟨_,_,_,_,⟨_,_,_,_,_,_,_⟩⟩:=y
  simp only at h1 h2 h3 h4 h5 h6 h7 h8 h9 h10 h11
  subst h1 h2 h3 h4 h5 h6 h7 h8 h9 h10 h11
  rfl
 ·rintro rfl;simp
theorem laws_jaMsgs_ok (a:List Msg) (b:List Msg):FunOK Tryz.prog 30 2 [] [(0,k1 (sMsgs a)),(1,k1 (sMsgs b))] (·=[(2,kB (decide (a=b)))]):=by
 refine fun_to (E:=⟨tabM,ctOf [],26,[],[(0,[0,1]),(1,[0,1,10]),(2,[4]),(3,[0,1,5]),(4,[0,1,5,14]),(5,[0,1,5]),(6,[0,1,5,25]),(7,[4]),(8,[4])],[(0,⟨Nat,fun x=>[(0,(k1 (.sh 63 (typ dMsg eMsg a)))),(1,(k1 (.sh 63 (typ dMsg eMsg b)))),(5,(k1 (.n .i64 (x:Int))))]⟩)],[],[],[]⟩) tabM_ok mixed Tryz.func30 rfl Tryz.ntmps30 (rvs:=[.tmp 4]) Tryz.results30 rfl fun hl=>?_
 refine cast (show ((((zi a.length) != zi b.length)=true->false=decide (a=b))/\(((zi a.length) != zi b.length)=false->∃ (pre:Nat->Prop),∃ (μ:Nat->Nat),∃ (x0:Nat),(q_g a a/\q_g b b/\i_0=zi x0)/\pre x0/\∀ (x:Nat),pre x->(decide (zi x<zi a.length)=true->(i_0<=zi x/\zi x<zi a.length)/\(i_0<=zi x/\zi x<zi b.length)/\((if true=true then !((g_Msg a x).kind==(g_Msg b x).kind&&((g_Msg a x).to==(g_Msg b x).to&&((g_Msg a x).frm==(g_Msg b x).frm&&((g_Msg a x).tx==(g_Msg b x).tx&&((g_Msg a x).op.kind==(g_Msg b x).op.kind&&((g_Msg a x).op.who==(g_Msg b x).op.who&&((g_Msg a x).op.inn==(g_Msg b x).op.inn&&((g_Msg a x).op.code==(g_Msg b x).op.code&&((g_Msg a x).op.sec==(g_Msg b x).op.sec&&((g_Msg a x).op.fam==(g_Msg b x).op.fam&&(g_Msg a x).op.gen==(g_Msg b x).op.gen)))))))))) else (g_Msg a x).kind==(g_Msg b x).kind&&((g_Msg a x).to==(g_Msg b x).to&&((g_Msg a x).frm==(g_Msg b x).frm&&((g_Msg a x).tx==(g_Msg b x).tx&&((g_Msg a x).op.kind==(g_Msg b x).op.kind&&((g_Msg a x).op.who==(g_Msg b x).op.who&&((g_Msg a x).op.inn==(g_Msg b x).op.inn&&((g_Msg a x).op.code==(g_Msg b x).op.code&&((g_Msg a x).op.sec==(g_Msg b x).op.sec&&((g_Msg a x).op.fam==(g_Msg b x).op.fam&&(g_Msg a x).op.gen==(g_Msg b x).op.gen))))))))))=true->false=decide (a=b))/\((if true=true then !((g_Msg a x).kind==(g_Msg b x).kind&&((g_Msg a x).to==(g_Msg b x).to&&((g_Msg a x).frm==(g_Msg b x).frm&&((g_Msg a x).tx==(g_Msg b x).tx&&((g_Msg a x).op.kind==(g_Msg b x).op.kind&&((g_Msg a x).op.who==(g_Msg b x).op.who&&((g_Msg a x).op.inn==(g_Msg b x).op.inn&&((g_Msg a x).op.code==(g_Msg b x).op.code&&((g_Msg a x).op.sec==(g_Msg b x).op.sec&&((g_Msg a x).op.fam==(g_Msg b x).op.fam&&(g_Msg a x).op.gen==(g_Msg b x).op.gen)))))))))) else (g_Msg a x).kind==(g_Msg b x).kind&&((g_Msg a x).to==(g_Msg b x).to&&((g_Msg a x).frm==(g_Msg b x).frm&&((g_Msg a x).tx==(g_Msg b x).tx&&((g_Msg a x).op.kind==(g_Msg b x).op.kind&&((g_Msg a x).op.who==(g_Msg b x).op.who&&((g_Msg a x).op.inn==(g_Msg b x).op.inn&&((g_Msg a x).op.code==(g_Msg b x).op.code&&((g_Msg a x).op.sec==(g_Msg b x).op.sec&&((g_Msg a x).op.fam==(g_Msg b x).op.fam&&(g_Msg a x).op.gen==(g_Msg b x).op.gen))))))))))=false->∃ (y:Nat),(q_g a a/\q_g b b/\wr_ ((zi x)+i_1)=zi y)/\pre y/\μ y<μ x))/\(decide (zi x<zi a.length)=false->true=decide (a=b))))=_ by kernel_rfl) ?_
 delta i_0 i_1 wr_ zi t_g q_g g_Msg
 have hx:a.length<=9223372036854775807:=hl.1 (.c (sMsgs a)) (by simp)
 simp only [zza,zzb,true_and,and_true,and_self,ne_eq,cI_app,cWrtO_app,cWrtS_app,cWrtO_1,cItemO_1,opr_ex,zcast,frz_nil,nil_map,Option.getD_none,Option.getD_some]
 simp only [msgEq,if_true]
 refine ⟨fun h=>?_,fun h=>?_⟩
 ·exact (decide_eq_false fun he=>h (by rw [he])).symm
 have hlen:=len_ne h
 refine ⟨fun i=>i<=a.length/\∀ j,j<i->a.getD j dMsg=b.getD j dMsg,⟨by omega,fun j hj=>absurd hj (Nat.not_lt_zero _)⟩,fun i=>a.length-i,fun i hp=>?_⟩
 obtain ⟨h1,h2⟩:=hp
 refine ⟨fun hlt=>⟨by omega,hlt,by omega,by omega,fun e=>?_,fun e=>⟨i+1,wrapN (by omega),⟨by omega,below_succ h2 (by simpa using e)⟩,by simp only;omega⟩⟩,fun hge=>?_⟩
 ·have e:¬ a.getD i dMsg=b.getD i dMsg:=by simpa using e
  exact (decide_eq_false fun he=>e (by rw [he])).symm
 ·exact (decide_eq_true (ext_getD (d:=dMsg) hlen fun j hj=>h2 j (by omega))).symm
def laws_jaMsgs_c:Con Tryz.prog:=con0 [.lend,.lend] fun b:List Msg×List Msg=>laws_jaMsgs_ok (b.1) (b.2)
end Go.Proofs.AI
namespace Go.Proofs.AI
set_option linter.unusedVariables false
set_option linter.unusedSimpArgs false
theorem risB_iff {l:List Int}:risB l=true↔ris3 l:=by
 refine ⟨ris3_of,fun h=>?_⟩
 rcases ris3_cases h with rfl | rfl | rfl | rfl | rfl | rfl | rfl | rfl<;>decide
theorem adj_pw {l:List FTx} (h:∀ i,i+1<l.length->(l.getD i dFTx).tx<(l.getD (i+1) dFTx).tx):l.Pairwise fun a b=>a.tx<b.tx:=by
 have lt:∀ d i,i+d+1<l.length->(l.getD i dFTx).tx<(l.getD (i+d+1) dFTx).tx:=fun d=>by
  induction d with
  | zero=>intro i hi;exact h i hi
  | succ d ih=>intro i hi;have:=ih i (by omega);have:=h (i+d+1) (by omega);rw [show i+(d+1)+1=i+d+1+1 by omega];omega
 refine List.pairwise_iff_getElem.2 fun i j hi hj hij=>?_
 have:=lt (j-i-1) i (by omega)
 rw [show i+(j-i-1)+1=j by omega,getD_lt hi,getD_lt hj] at this
 exact this
theorem pw_at {l:List FTx} (h:l.Pairwise fun a b=>a.tx<b.tx) {i j:Nat} (hij:i<j) (hj:j<l.length):(l.getD i dFTx).tx<(l.getD j dFTx).tx:=by
 have:=List.pairwise_iff_getElem.1 h i j (by omega) hj hij
 rwa [getD_lt (by omega:i<l.length),getD_lt hj]
theorem froB_iff {f:Front}:froB f=true↔okF f:=by
 refine ⟨fun h=>?_,fun h=>?_⟩
 ·obtain ⟨g1,g2,g3,g4⟩:=froB_parts h
  have hp:∀ k,k<f.way.length->okT f.disk.notes (f.way.getD k dFTx):=fun k hk=>by
   have:=g4 k hk
   simp only [wayP,Bool.and_eq_true,Bool.or_eq_true,beq_iff_eq,decide_eq_true_eq] at this
   obtain ⟨⟨⟨⟨⟨q1,q2⟩,q3⟩,q4⟩,q5⟩,q6⟩:=this
   refine ⟨by simpa [inR] using q1,risB_iff.1 q3,risB_iff.1 q4,q5,fun hy=>?_⟩
   rcases q6 with q6 | q6
   ·rw [hy] at q6;cases q6
   ·exact ⟨q6.1,List.length_eq_zero_iff.1 q6.2⟩
  refine ⟨g1,g2,g3,adj_pw fun i hi=>?_,fun t ht=>?_⟩
  ·have:=g4 (i+1) hi
   simp only [wayP,Bool.and_eq_true,Bool.or_eq_true,beq_iff_eq,decide_eq_true_eq] at this
   rcases this.1.1.1.1.2 with h0 | h0
   ·omega
   ·simpa using h0
  ·obtain ⟨k,hk,rfl⟩:=List.getElem_of_mem ht
   have:=hp k hk
   rwa [getD_lt hk] at this
 ·simp only [froB,Bool.and_eq_true,decide_eq_true_eq,List.all_eq_true,Bool.or_eq_true,beq_iff_eq,List.mem_range]
  refine ⟨⟨⟨h.fd,h.wl⟩,h.kd⟩,fun k hk=>?_⟩
  have ht:=h.ok _ (getD_mem' (d:=dFTx) hk)
  simp only [wayP,Bool.and_eq_true,Bool.or_eq_true,beq_iff_eq,decide_eq_true_eq]
  refine ⟨⟨⟨⟨⟨by simpa [inR] using ht.tx,?_⟩,risB_iff.2 ht.can⟩,risB_iff.2 ht.know⟩,ht.yes⟩,?_⟩
  ·rcases Nat.eq_zero_or_pos k with h0 | h0
   ·exact .inl h0
   ·exact .inr (pw_at h.ws (by omega) hk)
  ·rcases Bool.eq_false_or_eq_true (f.way.getD k dFTx).yes with hy | hy
   ·exact .inl hy
   ·exact .inr ⟨(ht.op hy).1,by rw [(ht.op hy).2]<;>rfl⟩
end Go.Proofs.AI
namespace Go.Proofs.AI
open Go.RowKit Go.Proofs Go.Lib Go.Shelf Go.Sort
set_option linter.unusedVariables false
set_option linter.unusedSimpArgs false
set_option maxRecDepth 100000
set_option maxHeartbeats 1000000 in
theorem indI (ad:Addr) (n c:Nat) (zs:List Int) (x:Int) (w:World) (hn:Hid (zs.length=n)) (hbig:n<=9223372036854775807) (hc:∀ k,k<n->w.cell? (ad.add k)=some (.int .i64 (zs.getD k 0))) :
  Calls Tryz.prog 169 #[.slice (some ad) n c,.int .i64 x] w fun e w'=>e=.returned (.int .i64 (idxOf (fun y=>x==y) zs))/\w'=w:=by
 go_enter Tryz.func169,Tryz.ntmps169
 go_wp2
 go_loop [5,8] (fun _ i=>∃ k:Nat,k<=n/\i=.int .i64 k/\∀ j,j<k->(x==zs.getD j 0)=false) (fun _ i=>match i with | .int _ m=>n-m.toNat | _=>0)
 case atStart=>exact ⟨0,Nat.zero_le _,rfl,fun j hj=>absurd hj (Nat.not_lt_zero _)⟩
 case round =>
  obtain ⟨k,hk,rfl,hne⟩:=hrel
  have hcell:k<n->w.cell? (ad.add k)=some (.int .i64 (zs.getD k 0)):=fun h=>hc k h
  go_wp2
  ·have hlt:k<n:=by assumption
   have heq:(x==zs[k]?.getD 0)=true:=by assumption
   go_ret
   refine ⟨?_,rfl⟩
   rw [idxOf_hit (d:=0) (i:=k) (by have:=hn.out;omega) (by simpa [List.getD] using heq) hne]
   rfl
  ·have hlt:k<n:=by assumption
   have hneq:(x==zs[k]?.getD 0)=false:=by assumption
   have hnx:∀ j,j<k+1->(x==zs.getD j 0)=false:=fun j hj=>by
    by_cases e:j=k
    ·subst e
     simpa [List.getD] using hneq
    ·exact hne j (by omega)
   go_round
   ·exact ⟨k+1,by omega,rfl,hnx⟩
   ·simp only;omega
  ·have hge:¬ k<n:=by assumption
   have:k=n:=by omega
   subst this
   go_ret
   refine ⟨?_,rfl⟩
   rw [idxOf_miss (d:=0) fun j hj=>hne j (by have:=hn.out;omega)]
   rfl
set_option maxHeartbeats 1000000 in
theorem indI0 (A:Option Addr) (c:Nat) (x:Int) (w:World) :
  Calls Tryz.prog 169 #[.slice A 0 c,.int .i64 x] w fun e w'=>e=.returned (.int .i64 (-1))/\w'=w:=by
 go_enter Tryz.func169,Tryz.ntmps169
 go_wp2
 go_loop [5,8] (fun _ i=>i=.int .i64 0) (fun _ _=>0)
 case atStart=>rfl
 case round =>
  subst hrel
  go_wp2
  go_ret
  exact ⟨rfl,rfl⟩
def Ints (w:World) (A:Option Addr) (zs:List Int):Prop:=0<zs.length->∃ ad:Addr,A=some ad/\∀ k,k<zs.length->w.cell? (ad.add k)=some (.int .i64 (zs.getD k 0))
theorem indA {A:Option Addr} {c:Nat} {zs:List Int} (x:Int) {w:World} (hbig:zs.length<=9223372036854775807) (hc:Ints w A zs) :
  Calls Tryz.prog 169 #[.slice A zs.length c,.int .i64 x] w fun e w'=>e=.returned (.int .i64 (idxOf (fun y=>x==y) zs))/\w'=w:=by
 rcases Nat.eq_zero_or_pos zs.length with h | h
 ·obtain rfl:=List.length_eq_zero_iff.1 h
  exact indI0 A c x w
 ·obtain ⟨ad,rfl,h2⟩:=hc h
  exact indI ad zs.length c zs x w rfl hbig h2
theorem conI {A:Option Addr} {c:Nat} {zs:List Int} (x:Int) {w:World} (hbig:zs.length<=9223372036854775807) (hc:Ints w A zs) :
  Calls Tryz.prog 129 #[.slice A zs.length c,.int .i64 x] w fun e w'=>e=.returned (.bool (zs.any fun y=>x==y))/\w'=w:=by
 have hi:=indA (A:=A) (c:=c) x hbig hc
 have hd:decide (0<=idxOf (fun y=>x==y) zs)=zs.any fun y=>x==y:=idx_ge _ _
 generalize zs.length=n at *
 generalize idxOf (fun y=>x==y) zs=k at *
 generalize (zs.any fun y=>x==y)=b at *
 go_enter Tryz.func129,Tryz.ntmps129
 go_wp2_with (go_at_call 169;refine hi.mono ?_;rintro e w' ⟨rfl,rfl⟩)
 go_ret
 exact ⟨rfl,rfl⟩
theorem woI {B:Addr} {A:Option Addr} {c:Nat} {zs:List Int} (x:Int) {w:World} (hbig:zs.length<=9223372036854775807) (hb:w.cell? B=some (.slice A zs.length c)) (hc:Ints w A zs) :
  FnGives Tryz.prog 128 #[.pointer (some B)] #[.int .i64 x] (.bool (zs.any fun y=>x==y)) w:=by
 show Calls Tryz.prog 128 #[.int .i64 x,.pointer (some B)] w _
 have hi:=fun w (hc:Ints w A zs)=>conI (A:=A) (c:=c) x hbig hc
 have hI:Hid (Ints w A zs):=hc
 generalize hn:zs.length=n at *
 go_enter Tryz.func128,Tryz.ntmps128
 go_wp2_with (go_at_call 129;refine (hi _ hI.out).mono ?_;rintro e w' ⟨rfl,rfl⟩)
 go_ret
 exact ⟨rfl,0,rfl⟩
def dfRen:Ren:=⟨fun | 10=>127 | 6=>168 | n=>n,fun | 22=>34 | 23=>3 | 25=>87 | n=>n,fun | n=>n⟩
theorem dfLay:SlLaysH.n10 Tryz.prog dfRen:={
 mixed:=rfl
 f6:=⟨"slices.IndexFunc[[]int,int]",rfl,Tryz.func168.trans (congrArg some (by kernel_rfl))⟩
 f10:=⟨"slices.DeleteFunc[[]int,int]",rfl,Tryz.func127.trans (congrArg some (by kernel_rfl))⟩
 t0:=Tryz.underlying0
 a0:=Tryz.isAgg0
 z0:=Tryz.sizeOf0
 v0:=Tryz.zeroValue0
 t3:=Tryz.underlying3
 a3:=Tryz.isAgg3
 z3:=Tryz.sizeOf3
 v3:=Tryz.zeroValue3
 t4:=Tryz.underlying4
 a4:=Tryz.isAgg4
 z4:=Tryz.sizeOf4
 v4:=Tryz.zeroValue4
 t22:=Tryz.underlying34
 a22:=Tryz.isAgg34
 z22:=Tryz.sizeOf34
 v22:=Tryz.zeroValue34
 a23:=Tryz.isAgg3
 z23:=Tryz.sizeOf3
 t25:=Tryz.underlying87
 a25:=Tryz.isAgg87
 z25:=Tryz.sizeOf87
 v25:=Tryz.zeroValue87 }
theorem rep_int {P:Program} {w:World} {I:Nat->Prop} {x:Int} {v:Value} {G:FP} (h:Rep P w I (.n .i64 x) v G):v=.int .i64 x:=by cases h;rfl
theorem heap_putRow (w:World) (g q:Nat) (d:Array Int) (b:Nat) (hb:b≠g):(putRow (Value.int .i64) (Sort.ahead w q) g 0 d).heap[b]?=w.heap[b]?:=by
 simp only [putRow,mapBlock,Array.getElem?_modify,Sort.ahead,if_neg (Ne.symm hb)]
theorem df_ok (l zs:List Int) (h:0<l.length/\l.length<=1000/\zs.length<=1000) :
  FunOK Tryz.prog 127 2 [] [(0,k1 (oI l)),(1,k1 (.fn 128 [.rp [sI zs]]))] (·=[(2,k1 (oI (lessP l zs)))]):=by
 obtain ⟨p1,p2,p3⟩:=h
 intro F0 I0 args w hs ⟨I,U,B,F,hr⟩
 obtain ⟨_,r0,⟨N0,n0,_,f0⟩,_⟩:=hr.key 0 (k1 (oI l)) (by simp [mk,up])
 obtain ⟨_,r1,⟨N1,n1,_⟩,_⟩:=hr.key 1 (k1 (.fn 128 [.rp [sI zs]])) (by simp [mk,up])
 have a0:args.getD 0 undef=U 0 0:=r0.2.2
 have a1:args.getD 1 undef=U 1 0:=r1.2.2
 have hrep:Rep Tryz.prog w I (oI l) (U 0 0) (N0 0):=n0 0 _ rfl
 have hfn:Rep Tryz.prog w I (.fn 128 [.rp [sI zs]]) (U 1 0) (N1 0):=n1 0 _ rfl
 have hz:Tryz.prog.cellsOf tI=1:=by kernel_rfl
 rcases Rep.ow_inv hrep with ⟨_,h0⟩ | ⟨g,cap,cur,us,G,hv,h1,h2,h3,h4,h5,h6,h7,h8,h9,h10,h11⟩
 ·have h0:l.length=0:=h0
  omega
 have hn:(typ 0 eI l).n=l.length:=rfl
 rw [hz] at h2 h7 h8
 rw [hn] at hv h3
 obtain ⟨vs,hv1,hvs,hcaps⟩:∃ vs:Array Value,U 1 0=.func (.func 128) #[] vs/\vs.size=1/\∀ (o:Nat) (x:CV),[CV.rp [sI zs]][o]?=some x->Rep Tryz.prog w I x (vs.getD o undef) FP.none:=by
  generalize U 1 0=v at hfn
  generalize N1 0=n at hfn
  cases hfn with
  | fn vs e1 e2=>exact ⟨vs,rfl,e1,e2⟩
 obtain ⟨ad,hvp,hI,A,c,us2,hcell,q1,q2,q3,q4,q5⟩:∃ (ad:Addr),vs.getD 0 undef=.pointer (some ad)/\I ad.block/\∃ (A:Option Addr) (c:Nat) (us2:Nat->Nat->Value),w.cell? ad=some (.slice A zs.length c)/\zs.length<=c/\zs.length<=9223372036854775807 /\
   (0<zs.length->∃ a2:Addr,A=some a2/\I a2.block/\∀ k,k<zs.length->w.cell? (a2.add (k*1+0))=some (us2 k 0))/\(∀ k,k<zs.length->us2 k 0=.int .i64 (zs.getD k 0))/\True:=by
  have h0:=hcaps 0 _ rfl
  generalize vs.getD 0 undef=v at h0
  generalize FP.none=n at h0
  cases h0 with
  | @rp row ad _ us' e1 e2 e3 =>
   refine ⟨ad,rfl,e1,?_⟩
   have c0:=e2 0 (by simp)
   have r0:=e3 0 _ rfl
   rw [show ad.add 0=ad by simp [Addr.add]] at c0
   obtain ⟨A,c,us2,x1,x2,x3,x4,x5,x6⟩:=r0.sh_inv
   rw [x1] at c0
   have hrow:∀ k,k<zs.length->(typ 0 eI zs).l[k]?=some (eI (zs.getD k 0)):=fun k hk=>by
    rw [Rows.l_at,if_pos (show k<(typ 0 eI zs).n from hk)]<;>rfl
   refine ⟨A,c,us2,c0,x2,x3,fun hp=>?_,fun k hk=>?_,trivial⟩
   ·obtain ⟨a2,y1,y2,y3⟩:=x4 hp
    refine ⟨a2,y1,y2,fun k hk=>?_⟩
    have:=y3 k _ (hrow k hk) 0 (by simp [eI])
    rw [hz] at this;exact this
   ·exact rep_int (x6 k _ 0 (.n .i64 (zs.getD k 0)) (hrow k hk) rfl)
 have hvs1:vs=#[.pointer (some ad)]:=by
  refine Array.ext (by simpa using hvs) fun j j1 j2=>?_
  have:j=0:=by
           have:j<1:=by simpa using j2
           omega
  subst this
  rw [Array.getD_eq_getD_getElem?,Array.getElem?_eq_getElem j1] at hvp;exact hvp
 have hargs:args=#[.slice (some ⟨g,0,none⟩) l.length cap,.func (.func 128) #[] #[.pointer (some ad)]]:=by
  refine Array.ext (by simpa using hs) fun j j1 j2=>?_
  have:j=0∨j=1:=by
               have:j<2:=by simpa using j2
               omega
  rcases this with rfl | rfl
  ·rw [Array.getD_eq_getD_getElem?,Array.getElem?_eq_getElem j1,hv] at a0;exact a0
  ·rw [Array.getD_eq_getD_getElem?,Array.getElem?_eq_getElem j1,hv1,hvs1] at a1;exact a1
 have hgive:∀ (W:World) (x:Int),(∀ b,I b->W.heap[b]?=w.heap[b]?)->FnGives Tryz.prog 128 #[.pointer (some ad)] #[.int .i64 x] (.bool (zs.any fun y=>x==y)) W:=fun W x hW=>by
  have hcl:∀ a:Addr,I a.block->W.cell? a=w.cell? a:=fun a ha=>by simp only [World.cell?,hW a.block ha]
  refine woI (c:=c) (A:=A) x q2 ((hcl ad hI).trans hcell) fun hp=>?_
  obtain ⟨a2,y1,y2,y3⟩:=q3 hp
  refine ⟨a2,y1,fun k hk=>?_⟩
  have:=y3 k hk
  rw [Nat.mul_one,Nat.add_zero,q4 k hk] at this
  rw [hcl _ (by rw [add_block];exact y2)];exact this
 have hown:∀ b,N0 0 b->b<w.heap.size/\¬ I b/\∀ q,F0 b q:=fun b hb=>by
  have hb:=(f0 0 b hb).1
  obtain ⟨o1,o2⟩:=hr.own 0 b hb
  refine ⟨o1,o2,?_⟩
  rcases hr.may 0 b hb with m1 | m1 | ⟨K,m1,m2,_⟩
  ·exact absurd m1 (by simp only;omega)
  ·exact m1
  ·simp [mk,up] at m1;subst m1;cases m2.1
 have hcur:∀ k,k<l.length->cur[k]?=some (.int .i64 (l.getD k 0)):=fun k hk=>by
  have hrow:(typ 0 eI l).l[k]?=some (eI (l.getD k 0)):=by rw [Rows.l_at,if_pos (show k<(typ 0 eI l).n from hk)]<;>rfl
  have e1:=h8 k _ 0 hrow (by simp [eI])
  have e2:=h9 k _ 0 (.n .i64 (l.getD k 0)) hrow rfl
  rw [Nat.mul_one,Nat.add_zero,rep_int e2] at e1;exact e1
 have hH:Holds (Value.int .i64) w g 0 l.toArray:=fun j hj=>by
  have hj:j<l.length:=by simpa using hj
  refine ⟨?_,frozen_of h1 _⟩
  rw [cell_of h1,Nat.zero_add,hcur j hj,getD_lt hj,getElem!_pos l.toArray j (by simpa using hj)];simp
 have hdf:=AnyE.slices_DeleteFunc dfLay (Value.int .i64) (fun _=>rfl) (fun x=>zs.any fun y=>x==y) 128 #[.pointer (some ad)] (enters_of Tryz.func128 (by kernel_rfl) rfl) 0 Tryz.zeroValue3 g 0 cap l.toArray w
  (fun W x hb=>hgive W x fun b hb2=>hb.block b (hr.ro b hb2))
  (fun n os dk x hd=>hgive _ x fun b hb2=>by
   have hbg:b≠g:=by rintro rfl;exact h6 hb2
   have hsz:=hr.ro b hb2
   unfold sortWorld
   rw [heap_grow_old _ _ (by rw [size_putRow];exact hsz)]
   exact heap_putRow w g n dk b hbg) hH (by simp;omega) (by simpa using h3)
 have hfil:(l.toArray.toList.filter fun x=>!zs.any fun y=>x==y)=lessP l zs:=by
  simp only [lessP]
  congr 1;funext x;congr 2;funext y;rw [Bool.eq_iff_iff,beq_iff_eq,beq_iff_eq];exact eq_comm
 rw [hfil] at hdf
 simp only [List.size_toArray] at hdf
 unfold CallsTo
 rw [ent_of Tryz.func127 rfl rfl,hargs]
 refine Calls.mono hdf fun ed w' ⟨d1,q,d2⟩=>⟨_,d1,_,rfl,?_⟩
 rw [<- hargs]
 have hle:(lessP l zs).length<=l.length:=List.length_filter_le _ _
 have hg':w'.heap[g]?=some (.cells (putCells (Value.int .i64) 0 ((lessP l zs)++List.replicate (l.length-(lessP l zs).length) 0).toArray cur) tI (0,0)):=by
  rw [d2];simp only [putRow,mapBlock,Array.getElem?_modify,Sort.ahead,if_true,h1,Option.map_some,onCells]
 have hO:Oth w w' g:=by
  rw [d2]
  exact ⟨rfl,rfl,rfl,by rw [size_putRow];exact Nat.le_refl _,fun b hb hn=>heap_putRow w g q _ b hn⟩
 refine rel_ret hr (N:=N0 0) ?_ (fun b hb=>?_) (Fr.oth hO (hown g h5).2.2)
 ·refine .ow (es:=typ 0 eI (lessP l zs)) (fun k o=>.int .i64 ((lessP l zs).getD k 0)) (fun _ _=>FP.none) hg' ?_ (Nat.le_trans hle h3) h4 h5 h6 (fun k row hk=>?_) (fun k row o hk ho=>?_) (fun k row o x hk ho=>?_) (fun k o b hb=>hb.elim) (fun k o k' o' b hb=>hb.elim)
  ·rw [hz];simp only [putCells,Array.size_mapIdx];exact h2
  ·rw [Rows.l_at] at hk
   split at hk
   ·cases hk;rw [hz]<;>rfl
   ·cases hk
  ·rw [Rows.l_at] at hk
   split at hk
   ·rename_i hlt
    have hlt:k<(lessP l zs).length:=hlt
    cases hk
    have ho:o=0:=by simp [typ,eI] at ho;exact ho
    subst ho
    rw [hz,Nat.mul_one,Nat.add_zero]
    simp only [putCells,Array.getElem?_mapIdx,hcur k (by omega),Option.map_some,List.size_toArray,List.length_append,List.length_replicate]
    rw [if_pos (by omega),Nat.sub_zero,getElem!_pos _ k (by simp;omega)]
    simp [List.getElem_append_left hlt,List.getElem?_eq_getElem hlt]
   ·cases hk
  ·rw [Rows.l_at] at hk
   split at hk
   ·cases hk
    cases o with
    | zero=>simp [typ,eI] at ho;subst ho;exact .n
    | succ o=>simp [typ,eI] at ho
   ·cases hk
 ·obtain ⟨o1,o2,o3⟩:=hown b hb
  exact ⟨Nat.lt_of_lt_of_le o1 hO.size,o2,.inr o3⟩
def df_c:Con Tryz.prog:=⟨127,2,[.give,.lend],[],List Int×List Int,some fun b=>0<b.1.length/\b.1.length<=1000/\b.2.length<=1000,fun b=>[(0,k1 (oI b.1)),(1,k1 (.fn 128 [.rp [sI b.2]]))],fun b=>[(2,k1 (oI (lessP b.1 b.2)))],[],fun b h=>df_ok b.1 b.2 h⟩
end Go.Proofs.AI
namespace Go.Proofs.AI
open Go.RowKit Go.Proofs
set_option linter.unusedVariables false
set_option linter.unusedSimpArgs false
set_option maxRecDepth 100000
def toldF (kind tx:Int) (o:Opr) (ps:List Int):List Msg:=ps.map fun p=>⟨kind,p,0,tx,o⟩
theorem told_send {k tx:Int} {o:Opr} {ps:List Int} (h:k=1∨o=dOpr):toldF k tx o ps=sendF k tx o ps:=by
 simp only [toldF,sendF]
 rcases h with h | h
 ·simp only [h,if_true]
 ·simp only [h,ite_self]
theorem impl_told_ok (kind:Int) (tx:Int) (o:Opr) (ps:List Int) (hpre:ps.length<=1000):FunOK Tryz.prog 79 4 [] [(0,kI kind),(1,kI tx),(2,kOp o),(3,k1 (sI ps))] (·=[(4,k1 (oMsgs (toldF kind tx o ps)))]):=by
 refine fun_to (E:=⟨tab,ctOf [],28,[],[(0,[0,1,3,6,9,18,23,24,25]),(1,[0,1,3,6,9,18,23,24,25]),(2,[0,1,3,6,9,12,13,14,18,23,24,25]),(3,[0,1,3,6,9,12,13,14,15,18,23,24,25]),(4,[0,1,3,6,9,11,12,13,14,18,23,24,25]),(5,[0,1,3,6,9,12,13,14,18,23,24,25]),(6,[0,1,3,6,9,12,13,14,18,23,24,25]),(7,[8,9,18,23,24,25,27])],[(0,⟨List Msg×Nat,fun x=>[(0,(k1 (.n .i64 kind))),(1,(k1 (.n .i64 tx))),(3,(k1 (.sh 3 (typ (0:Int) eI ps)))),(6,⟨.box,[.c (.n .i64 o.kind),.c (.n .i64 o.who),.c (.n .i64 o.inn),.c (.n .i64 o.code),.c (.n .i64 o.sec),.c (.n .i64 o.fam),.c (.n .i64 o.gen)],[]⟩),(9,(k1 (oMsgs (x.1)))),(12,(k1 (.sh 3 (typ (0:Int) eI ps)))),(13,(k1 (.n .i64 ((↑ps.length:Int))))),(14,(k1 (.n .i64 (x.2:Int))))]⟩)],[(5,[(1000000,[])]),(7,[(1000000,[])])],[],[]⟩) tab_ok mixed Tryz.func79 rfl Tryz.ntmps79 (rvs:=[.tmp 8]) Tryz.results79 rfl fun hl=>?_
 refine cast (show (let k_1:Prop:=o.kind=o.kind/\o.who=o.who/\o.inn=o.inn/\o.code=o.code/\o.sec=o.sec/\o.fam=o.fam/\o.gen=o.gen;∃ (pre:List Msg×Nat->Prop),∃ (μ:List Msg×Nat->Nat),∃ (x0:List Msg×Nat),(kind=kind/\tx=tx/\q_I ps ps/\k_1/\x0.1.length=n_0/\q_I ps ps/\zi ps.length=zi ps.length/\i_0=zi x0.2)/\pre x0/\(∀ (x:List Msg×Nat),pre x->(decide (zi x.2<zi ps.length)=true->(i_0<=zi x.2/\zi x.2<zi ps.length)/\(x.1.length+n_1)*n_88<=n_140737488355328/\(∃ (y:List Msg×Nat),(kind=kind/\tx=tx/\q_I ps ps/\k_1/\cnRs (appR (typ dMsg eMsg x.1) (raw [[cn_ kind,cn_ (g_Int ps x.2),cn_ i_0,cn_ tx,cn_ o.kind,cn_ o.who,cn_ o.inn,cn_ o.code,cn_ o.sec,cn_ o.fam,cn_ o.gen]]))=t_g y.1/\q_I ps ps/\zi ps.length=zi ps.length/\wr_ ((zi x.2)+i_1)=zi y.2)/\pre y/\μ y<μ x))/\(decide (zi x.2<zi ps.length)=false->q_g x.1 (toldF kind tx o ps))))=_ by kernel_rfl) ?_
 delta i_0 i_1 wr_ g_Int zi t_I q_I n_0 n_140737488355328 n_1 cn_ t_g q_g n_88
 simp only [zza,zzb,true_and,and_true,and_self,ne_eq,cI_app,cWrtO_app,cWrtS_app,cWrtO_1,cItemO_1,opr_ex,zcast,frz_nil,nil_map,Option.getD_none,Option.getD_some]
 refine ⟨fun x=>x.2<=ps.length/\x.1=toldF kind tx o (ps.take x.2),fun x=>ps.length-x.2,[],rfl,⟨by omega,rfl⟩,fun a i hp=>?_⟩
 obtain ⟨h1,h2⟩:=hp
 simp only at h1 h2
 subst h2
 refine ⟨fun hlt=>⟨by omega,hlt,by simp only [toldF,List.length_map,List.length_take];omega,toldF kind tx o (ps.take (i+1)),?_,i+1,wrapN (by omega),⟨by simp only;omega,rfl⟩,by simp only;omega⟩,fun hge=>?_⟩
 ·rw [take_succ (d:=0) (by omega)]
  simp [toldF]
 ·have:i=ps.length:=by omega
  rw [this,List.take_length]
def impl_told_c:Con Tryz.prog:=conP [.lend,.lend,.lend,.lend] fun (b:Int×Int×Opr×List Int) h=>impl_told_ok (b.1) (b.2.1) (b.2.2.1) (b.2.2.2) h
end Go.Proofs.AI
namespace Go.Proofs.AI
open Go.RowKit Go.Proofs
set_option linter.unusedVariables false
set_option linter.unusedSimpArgs false
set_option maxRecDepth 100000
theorem impl_services_ok (u:Unit):FunOK Tryz.prog 81 0 [] [] (·=[(0,k1 (oI [1,2,3]))]):=by
 refine fun_to (E:=⟨tab,ctOf [],2,[],[(0,[]),(1,[0,1])],[],[],[],[]⟩) tab_ok mixed Tryz.func81 rfl Tryz.ntmps81 (rvs:=[.tmp 0]) Tryz.results81 rfl fun hl=>?_
 refine cast (show (cnRs (typ i_0 (fun (y:Int)=>[cn_ y]) [i_1,i_2,i_3])=t_I [i_1,i_2,i_3])=_ by kernel_rfl) ?_
 delta i_0 i_1 i_2 i_3 t_I cn_
 simp only [zza,zzb,true_and,and_true,and_self,ne_eq,cI_app,cWrtO_app,cWrtS_app,cWrtO_1,cItemO_1,opr_ex,zcast,frz_nil,nil_map,Option.getD_none,Option.getD_some]
 done
def impl_services_c:Con Tryz.prog:=con0 [] fun b:Unit=>impl_services_ok b
theorem impl_without_ok (l:List Int) (zs:List Int) (hpre:0<l.length/\l.length<=1000/\zs.length<=1000):FunOK Tryz.prog 80 2 [] [(0,k1 (sI l)),(1,k1 (sI zs))] (·=[(2,k1 (oI (lessP l zs)))]):=by
 refine fun_to (E:=⟨tab,ctOf [CloneI_c,df_c],9,[],[(0,[0,3]),(1,[4,8])],[],[],[],[]⟩) tab_ok mixed Tryz.func80 rfl Tryz.ntmps80 (rvs:=[.tmp 4]) Tryz.results80 rfl fun hl=>?_
 refine cast (show (∃ (b:List Int),q_I l b/\b.length<=n_1000/\True/\∃ (b_1:y_10),(q_I b b_1.1/\cnR [CV.rp [CV.sh n_3 (typ i_0 eI zs)]]=cnR [CV.rp [CV.sh n_3 (typ i_0 eI b_1.2)]])/\(n_0<b_1.1.length/\b_1.1.length<=n_1000/\b_1.2.length<=n_1000)/\(((∀ (k:Nat),True/\True)/\True)/\True)/\q_I (lessP b_1.1 b_1.2) (lessP l zs))=_ by kernel_rfl) ?_
 delta i_0 t_I q_I n_0 n_3 n_1000 y_10
 simp only [zza,zzb,true_and,and_true,and_self,ne_eq,cI_app,cWrtO_app,cWrtS_app,cWrtO_1,cItemO_1,opr_ex,zcast,frz_nil,nil_map,Option.getD_none,Option.getD_some]
 exact ⟨hpre.2.1,zs,rfl,hpre.1,hpre.2.1,hpre.2.2,rfl⟩
def impl_without_c:Con Tryz.prog:=conP [.lend,.lend] fun (b:List Int×List Int) h=>impl_without_ok (b.1) (b.2) h
theorem places_pos {o:Opr} (h:opOk o=true):0<(placesL o).length:=by
 simp only [placesL,h]
 repeat' split
 all_goals simp_all
theorem impl_FroTick_ok (f:Front):FunOK Tryz.prog 29 1 [] [(0,kFrontS f)] (·=[(1,k1 (oMsgs (tickF f)))]):=by
 refine fun_to (E:=⟨tab,ctOf [impl_FroOk_c,impl_OpPlaces_c,impl_told_c,impl_without_c,impl_services_c],43,[],[(0,[1,3,18,26,27,28,39,40,42]),(1,[1,3,8,18,26,27,28,39,40,42]),(2,[2,3,18,26,27,28,39,40,42]),(3,[1,3,18,26,27,28,39,40]),(4,[1,3,9,10,11,12,18,26,27,28,39,40]),(5,[1,3,9,10,11,12,13,18,26,27,28,39,40]),(6,[1,3,5,9,10,11,12,18,26,27,28,39,40]),(7,[1,3,5,9,10,11,12,17,18,26,27,28,39,40]),(8,[1,3,9,10,11,12,18,26,27,28,39,40]),(9,[1,3,9,10,11,12,18,26,27,28,39,40]),(10,[1,3,9,10,11,12,18,26,27,28,39,40]),(11,[2,3,18,26,27,28,39,40,42])],[(0,⟨List Msg×Nat,fun x=>[(1,⟨.box,[.c (.sh 72 (typ dNote eNoteS f.disk.notes)),.c (.n .i64 f.disk.safe),.c (.sh 36 (typ dFTx eFTxS f.way))],[]⟩),(3,(k1 (oMsgs (x.1)))),(9,⟨.one,[.pr 1 2 0],[]⟩),(10,(k1 (.sh 36 (typ dFTx eFTxS f.way)))),(11,(k1 (.n .i64 ((↑f.way.length:Int))))),(12,(k1 (.n .i64 (x.2:Int))))]⟩)],[(11,[(1000000,[])])],[],[]⟩) tab_ok mixed Tryz.func29 rfl Tryz.ntmps29 (rvs:=[.tmp 2]) Tryz.results29 rfl fun hl=>?_
 refine cast (show (let k_5:Prop:=zi f.way.length=zi f.way.length;let k_4:Prop:=n_1=n_1/\n_2=n_2/\true=true;let k_3:Prop:=((∀ (k:Nat),True/\True)/\True)/\True;let k_2:Prop:=q_e f.disk.notes f.disk.notes/\f.disk.safe=f.disk.safe/\q_h f.way f.way;let k_1:Prop:=((∀ (k:Nat),True/\True/\True/\True/\True/\True/\True/\True/\True/\True/\True/\True)/\True)/\True;∃ (b:Front),(q_e f.disk.notes b.disk.notes/\f.disk.safe=b.disk.safe/\q_h f.way b.way)/\((!froB b)=true->(tickF f).length=n_0)/\((!froB b)=false->∃ (pre:List Msg×Nat->Prop),∃ (μ:List Msg×Nat->Nat),∃ (x0:List Msg×Nat),(k_2/\x0.1.length=n_0/\k_4/\q_h f.way f.way/\k_5/\i_0=zi x0.2)/\pre x0/\(∀ (x:List Msg×Nat),pre x->(decide (zi x.2<zi f.way.length)=true->(i_0<=zi x.2/\zi x.2<zi f.way.length)/\((g_FTx f.way x.2).yes=true->∃ (b:Unit),True/\(∃ (b:y_10),(cnRs (frozenRs (typ i_0 eI [i_1,i_2,i_3]))=t_I b.1/\q_I (g_FTx f.way x.2).know b.2)/\(n_0<b.1.length/\b.1.length<=n_1000/\b.2.length<=n_1000)/\k_3/\(∃ (b_1:y_20),(i_2=b_1.1/\(g_FTx f.way x.2).tx=b_1.2.1/\(i_0=b_1.2.2.1.kind/\i_0=b_1.2.2.1.who/\i_0=b_1.2.2.1.inn/\i_0=b_1.2.2.1.code/\i_0=b_1.2.2.1.sec/\i_0=b_1.2.2.1.fam/\i_0=b_1.2.2.1.gen)/\cnRs (frozenRs (typ i_0 eI (lessP b.1 b.2)))=t_I b_1.2.2.2)/\b_1.2.2.2.length<=n_1000/\k_1/\(x.1.length+(toldF b_1.1 b_1.2.1 b_1.2.2.1 b_1.2.2.2).length)*n_88<=n_140737488355328/\(∃ (y:List Msg×Nat),(k_2/\cnRs (appR (typ dMsg eMsg x.1) (typ dMsg eMsg (toldF b_1.1 b_1.2.1 b_1.2.2.1 b_1.2.2.2)))=t_g y.1/\k_4/\q_h f.way f.way/\k_5/\wr_ ((zi x.2)+i_1)=zi y.2)/\pre y/\μ y<μ x))))/\((g_FTx f.way x.2).yes=false->∃ (b:Opr),((g_FTx f.way x.2).op.kind=b.kind/\(g_FTx f.way x.2).op.who=b.who/\(g_FTx f.way x.2).op.inn=b.inn/\(g_FTx f.way x.2).op.code=b.code/\(g_FTx f.way x.2).op.sec=b.sec/\(g_FTx f.way x.2).op.fam=b.fam/\(g_FTx f.way x.2).op.gen=b.gen)/\(∃ (b_1:y_10),(cnRs (frozenRs (typ i_0 eI (placesL b)))=t_I b_1.1/\q_I (g_FTx f.way x.2).can b_1.2)/\(n_0<b_1.1.length/\b_1.1.length<=n_1000/\b_1.2.length<=n_1000)/\k_3/\(∃ (b:y_20),(i_1=b.1/\(g_FTx f.way x.2).tx=b.2.1/\((g_FTx f.way x.2).op.kind=b.2.2.1.kind/\(g_FTx f.way x.2).op.who=b.2.2.1.who/\(g_FTx f.way x.2).op.inn=b.2.2.1.inn/\(g_FTx f.way x.2).op.code=b.2.2.1.code/\(g_FTx f.way x.2).op.sec=b.2.2.1.sec/\(g_FTx f.way x.2).op.fam=b.2.2.1.fam/\(g_FTx f.way x.2).op.gen=b.2.2.1.gen)/\cnRs (frozenRs (typ i_0 eI (lessP b_1.1 b_1.2)))=t_I b.2.2.2)/\b.2.2.2.length<=n_1000/\k_1/\(x.1.length+(toldF b.1 b.2.1 b.2.2.1 b.2.2.2).length)*n_88<=n_140737488355328/\(∃ (y:List Msg×Nat),(k_2/\cnRs (appR (typ dMsg eMsg x.1) (typ dMsg eMsg (toldF b.1 b.2.1 b.2.2.1 b.2.2.2)))=t_g y.1/\k_4/\q_h f.way f.way/\k_5/\wr_ ((zi x.2)+i_1)=zi y.2)/\pre y/\μ y<μ x)))))/\(decide (zi x.2<zi f.way.length)=false->q_g x.1 (tickF f)))))=_ by kernel_rfl) ?_
 delta i_0 i_1 i_2 i_3 wr_ zi t_I q_I n_0 n_140737488355328 n_1 n_1000 n_2 y_10 t_e q_e t_g q_g n_88 g_FTx t_h q_h y_20
 simp only [zza,zzb,true_and,and_true,and_self,ne_eq,cI_app,cWrtO_app,cWrtS_app,cWrtO_1,cItemO_1,opr_ex,zcast,frz_nil,nil_map,Option.getD_none,Option.getD_some]
 refine ⟨fun h=>by simp at h;simp [tickF,h],fun h=>?_⟩
 have h:froB f=true:=by simpa only [Bool.not_eq_false'] using h
 have hok:=froB_iff.1 h
 have hw:=hok.wl
 refine ⟨fun x=>x.2<=f.way.length/\x.1=(f.way.take x.2).flatMap tickT,fun x=>f.way.length-x.2,[],rfl,⟨by omega,rfl⟩,fun a i hp=>?_⟩
 obtain ⟨h1,h2⟩:=hp
 simp only at h1 h2
 have hl:=tick_len (f.way.take i)
 rw [<- h2,List.length_take] at hl
 have go:i<f.way.length->∀ v,v=a++tickT (f.way.getD i dFTx)->∃ x:Nat,IntKind.i64.wrap ((i:Int)+1)=(x:Int)/\(x<=f.way.length/\v=(f.way.take x).flatMap tickT)/\f.way.length-x<f.way.length-i:=fun hlt v hv =>
  ⟨i+1,wrapN (by omega),⟨by omega,by rw [take_succ (d:=dFTx) hlt,List.flatMap_append,<- h2,hv];simp⟩,by omega⟩
 refine ⟨fun hlt=>?_,fun hge=>?_⟩
 ·have hT:=hok.at_ (k:=i) (by omega)
  generalize f.way.getD i dFTx=T at *
  have k1:=ris3_len hT.know
  have k2:=ris3_len hT.can
  have k3:=lessP_len [1,2,3] T.know
  have k4:=lessP_len (placesL T.op) T.can
  have k5:=places_len3 T.op
  simp only [List.length_cons,List.length_nil] at k3
  refine ⟨by omega,hlt,fun hy=>⟨by simp,by simp,by omega,by omega,?_,(),a++tickT T,?_,go (by omega) _ rfl⟩,fun hy=>⟨?_,by omega,by omega,by omega,?_,a++tickT T,?_,go (by omega) _ rfl⟩⟩
  ·simp only [toldF,List.length_map];omega
  ·have e:tickT T=toldF 2 T.tx dOpr (lessP [1,2,3] T.know):=by rw [tickT,if_pos hy,told_send (.inr rfl)]
   rw [e];simp [dOpr]
  ·have:=(hT.op hy).1
   exact places_pos this
  ·simp only [toldF,List.length_map];omega
  ·have e:tickT T=toldF 1 T.tx T.op (lessP (placesL T.op) T.can):=by rw [tickT,if_neg (by rw [hy];decide),told_send (.inl rfl)]
   rw [e];simp
 ·have:i=f.way.length:=by omega
  rw [h2,this,List.take_length,tickF,if_pos h]
def impl_FroTick_c:Con Tryz.prog:=con0 [.lend] fun b:Front=>impl_FroTick_ok b
end Go.Proofs.AI
namespace Go.Proofs.AI
open Go.RowKit Go.Proofs
set_option linter.unusedVariables false
set_option linter.unusedSimpArgs false
set_option maxRecDepth 100000
theorem spec_DrawFroTick_ok (l:List Int) (hpre:okU l):FunOK Tryz.prog 28 1 [] [(0,k1 (sU l))] (·=[(1,kFrontO (frontD (l.take 2000) 0 9).1)]):=by
 refine fun_to (E:=⟨tab,ctOf [spec_l20Front_c,spec_l20Open_c],6,[],[(0,[0,2,5]),(1,[2,5])],[],[],[],[]⟩) tab_ok mixed Tryz.func28 rfl Tryz.ntmps28 (rvs:=[.cell 2 28]) Tryz.results28 rfl fun hl=>?_
 refine cast (show (∃ (b:List Int),q_U l b/\∃ (b_1:y_6),((q_U (List.take n_2000 b) b_1.1/\zi n_0=zi b_1.2.1)/\i_9=b_1.2.2)/\(rdB b_1.1 b_1.2.1 n_4000/\b_1.2.2<i_1000000)/\q_f (frontD b_1.1 b_1.2.1 b_1.2.2).1.disk.notes (frontD (List.take n_2000 l) n_0 i_9).1.disk.notes/\(frontD b_1.1 b_1.2.1 b_1.2.2).1.disk.safe=(frontD (List.take n_2000 l) n_0 i_9).1.disk.safe/\q_j (frontD b_1.1 b_1.2.1 b_1.2.2).1.way (frontD (List.take n_2000 l) n_0 i_9).1.way)=_ by kernel_rfl) ?_
 delta i_9 zi n_0 i_1000000 t_U q_U n_2000 y_6 t_f q_f t_j q_j n_4000
 simp only [zza,zzb,true_and,and_true,and_self,ne_eq,cI_app,cWrtO_app,cWrtS_app,cWrtO_1,cItemO_1,opr_ex,zcast,frz_nil,nil_map,wayEq_self,Option.getD_none,Option.getD_some]
 have hu:okU (l.take 2000):=fun x hx=>hpre x (List.mem_of_mem_take hx)
 exact ⟨⟨hu,by omega⟩,by omega⟩
def spec_DrawFroTick_c:Con Tryz.prog:=conP [.lend] fun (b:List Int) h=>spec_DrawFroTick_ok b h
end Go.Proofs.AI
namespace Go.Proofs.AI
open Go.RowKit Go.Proofs
set_option linter.unusedVariables false
set_option linter.unusedSimpArgs false
set_option maxRecDepth 100000
set_option pp.deepTerms true
set_option pp.maxSteps 40000
set_option pp.proofs true
def wantT (T:FTx) (p:Int):Bool:=if T.yes=true then !(T.know.any fun x=>x==p) else (placesL T.op).any (fun x=>x==p)&&!(T.can.any fun x=>x==p)
def wantN (T:FTx) (b:Nat):Nat:=((List.range b).filter fun (p:Nat)=>decide (0<p)&&wantT T (p:Int)).length
theorem wantN_succ (T:FTx) {b:Nat} (h:0<b):wantN T (b+1)=wantN T b+if wantT T (b:Int)=true then 1 else 0:=by
 simp only [wantN,List.range_succ,List.filter_append,List.filter_cons,List.filter_nil,h,decide_true,Bool.true_and,List.length_append]
 split<;>simp
theorem wantN_le (T:FTx) (b:Nat):wantN T b<=b:=by
 simp only [wantN]
 have:=List.length_filter_le (fun (p:Nat)=>decide (0<p)&&wantT T (p:Int)) (List.range b)
 simpa using this
theorem wantN_one (T:FTx):wantN T 1=0:=by simp [wantN,List.range_succ]
theorem wantN_all {ns:List Note} {T:FTx} (h:okT ns T):wantN T 4=(tickT T).length:=by
 have e:wantN T 4=(if wantT T 1=true then 1 else 0)+(if wantT T 2=true then 1 else 0)+(if wantT T 3=true then 1 else 0):=by
  rw [wantN_succ T (by omega),wantN_succ T (by omega),wantN_succ T (by omega),wantN_one];simp only [Nat.zero_add];rfl
 rw [e]
 rcases Bool.eq_false_or_eq_true T.yes with hy | hy
 ·simp only [tickT,wantT,hy,if_true,sendF,lessP,List.length_map,List.filter_cons,List.filter_nil]
  cases (T.know.any fun x=>x==1)<;>cases (T.know.any fun x=>x==2)<;>cases (T.know.any fun x=>x==3)<;>rfl
 ·simp only [tickT,wantT,hy,Bool.false_eq_true,if_false,sendF,lessP,List.length_map,placesL,(h.op hy).1,if_true]
  split
  ·cases h1:(T.can.any fun x=>x==1)<;>cases h3:(T.can.any fun x=>x==3)<;>simp [List.filter_cons,h1,h3]
  ·split
   ·cases h1:(T.can.any fun x=>x==1)<;>cases h2:(T.can.any fun x=>x==2)<;>cases h3:(T.can.any fun x=>x==3)<;>simp [List.filter_cons,h1,h2,h3]
   ·cases h2:(T.can.any fun x=>x==2)<;>cases h3:(T.can.any fun x=>x==3)<;>simp [List.filter_cons,h2,h3]
theorem tick_ok {f:Front} (hf:okF f):∀ m∈tickF f,msgB m=true/\m.frm=0:=by
 intro m hm
 simp only [tickF,froB_iff.2 hf,if_true] at hm
 obtain ⟨t,ht,hm⟩:=List.mem_flatMap.1 hm
 have hT:=hf.ok t ht
 have htx:inR t.tx 0 29=true:=by simp only [inR,Bool.and_eq_true,decide_eq_true_eq];exact hT.tx
 simp only [tickT] at hm
 split at hm
 ·obtain ⟨p,hp,rfl⟩:=List.mem_map.1 hm
  have:=lessP_sub hp
  have hp:inR p 1 3=true:=by simp at this;rcases this with rfl | rfl | rfl<;>decide
  exact ⟨by simp [msgB,htx,hp],rfl⟩
 ·rename_i hy
  obtain ⟨p,hp,rfl⟩:=List.mem_map.1 hm
  have h13:=places13' _ p (lessP_sub hp)
  have hp:inR p 1 3=true:=by simp only [inR,Bool.and_eq_true,decide_eq_true_eq];exact h13
  exact ⟨by simp [msgB,htx,hp,(hT.op (by simpa using hy)).1],rfl⟩
theorem laws_FnFroTick_ok (l:List Int) (hpre:okU l):FunOK Tryz.prog 5 1 [] [(0,k1 (sU l))] (·=[(1,kB true)]):=by
 refine fun_to (E:=⟨tab,ctOf [spec_FroOk_c,laws_jaOk_c,spec_DrawFroTick_c,impl_FroTick_c,laws_jaMsgs_c,spec_FroTick_c,laws_jaIn_c,impl_OpPlaces_c,impl_MsgOk_c],106,[],[(0,[0]),(1,[0,13]),(2,[2]),(3,[3]),(4,[3,4,17]),(5,[3,4,17,22]),(6,[2]),(7,[3,4,17,25]),(8,[2]),(9,[3,4,5,17]),(10,[3,4,5,6,17]),(11,[3,4,5,6,17,36]),(12,[3,4,5,6,17]),(13,[3,4,5,6,7,17]),(14,[3,4,5,6,7,8,17]),(15,[3,4,5,6,7,8,17,45]),(16,[3,4,5,6,7,8,17]),(17,[3,4,5,6,7,8,9,17]),(18,[3,4,5,6,7,8,17,76]),(19,[3,4,5,6,7,8,17]),(20,[4,5,10,17]),(21,[4,5,10,17,82]),(22,[4,5,10,17]),(23,[4,5,10,17,98]),(24,[2]),(25,[2])],[(0,⟨Nat×Nat,fun x=>[(3,⟨.box,[.c (.sh 72 (frozenRs (typ dNote eNoteO (frontD (List.take (2000:Nat) l) (0:Nat) (9:Int)).fst.disk.notes))),.c (.n .i64 ((frontD (List.take (2000:Nat) l) (0:Nat) (9:Int)).fst.disk.safe)),.c (.sh 36 (frozenRs (typ dFTx eFTxO (frontD (List.take (2000:Nat) l) (0:Nat) (9:Int)).fst.way)))],[]⟩),(4,(k1 (.ow 63 (typ dMsg eMsg (tickF (frontD (List.take (2000:Nat) l) (0:Nat) (9:Int)).fst))))),(5,(k1 (.n .i64 (x.1:Int)))),(6,(k1 (.n .i64 (x.2:Int)))),(17,(k1 .any))]⟩),(2,⟨Nat×Nat×Int×Int×Int×Int×Int×Int×Int×Int×Bool×List Int×List Int×Nat,fun x=>[(3,⟨.box,[.c (.sh 72 (frozenRs (typ dNote eNoteO (frontD (List.take (2000:Nat) l) (0:Nat) (9:Int)).fst.disk.notes))),.c (.n .i64 ((frontD (List.take (2000:Nat) l) (0:Nat) (9:Int)).fst.disk.safe)),.c (.sh 36 (frozenRs (typ dFTx eFTxO (frontD (List.take (2000:Nat) l) (0:Nat) (9:Int)).fst.way)))],[]⟩),(4,(k1 (.ow 63 (typ dMsg eMsg (tickF (frontD (List.take (2000:Nat) l) (0:Nat) (9:Int)).fst))))),(5,(k1 (.n .i64 (x.1:Int)))),(6,(k1 (.n .i64 (x.2.1:Int)))),(7,⟨.box,[.c (.n .i64 (x.2.2.1)),.c (.n .i64 (x.2.2.2.1)),.c (.n .i64 (x.2.2.2.2.1)),.c (.n .i64 (x.2.2.2.2.2.1)),.c (.n .i64 (x.2.2.2.2.2.2.1)),.c (.n .i64 (x.2.2.2.2.2.2.2.1)),.c (.n .i64 (x.2.2.2.2.2.2.2.2.1)),.c (.n .i64 (x.2.2.2.2.2.2.2.2.2.1)),.c (.b (x.2.2.2.2.2.2.2.2.2.2.1)),.c (sI (x.2.2.2.2.2.2.2.2.2.2.2.1)),.c (sI (x.2.2.2.2.2.2.2.2.2.2.2.2.1))],[]⟩),(8,(k1 (.n .i64 (x.2.2.2.2.2.2.2.2.2.2.2.2.2:Int)))),(17,(k1 .any))]⟩),(4,⟨Nat×Nat,fun x=>[(4,(k1 (.ow 63 (typ dMsg eMsg (tickF (frontD (List.take (2000:Nat) l) (0:Nat) (9:Int)).fst))))),(5,(k1 (.n .i64 (x.1:Int)))),(10,(k1 (.n .i64 (x.2:Int)))),(17,(k1 .any))]⟩)],[(3,[(3,[15])]),(8,[(1000000,[])]),(25,[(1000001,[])])],[],[]⟩) tab_ok mixed Tryz.func5 rfl Tryz.ntmps5 (rvs:=[.tmp 2]) Tryz.results5 rfl fun hl=>?_
 refine cast (show (let k_2:Prop:=q_g (tickF (frontD (List.take n_2000 l) n_0 i_9).1) (tickF (frontD (List.take n_2000 l) n_0 i_9).1);let k_1:Prop:=cnRs (frozenRs (typ dNote eNoteO (frontD (List.take n_2000 l) n_0 i_9).1.disk.notes))=cnRs (frozenRs (typ dNote eNoteO (frontD (List.take n_2000 l) n_0 i_9).1.disk.notes))/\(frontD (List.take n_2000 l) n_0 i_9).1.disk.safe=(frontD (List.take n_2000 l) n_0 i_9).1.disk.safe/\cnRs (frozenRs (typ dFTx eFTxO (frontD (List.take n_2000 l) n_0 i_9).1.way))=cnRs (frozenRs (typ dFTx eFTxO (frontD (List.take n_2000 l) n_0 i_9).1.way));(decide ((zi l.length)>i_1048576)=true->true=true)/\(decide ((zi l.length)>i_1048576)=false->∃ (b:List Int),q_U l b/\okU b/\(∃ (b_1:Front),(cnRs (frozenRs (typ dNote eNoteO (frontD (List.take n_2000 b) n_0 i_9).1.disk.notes))=t_e b_1.disk.notes/\(frontD (List.take n_2000 b) n_0 i_9).1.disk.safe=b_1.disk.safe/\cnRs (frozenRs (typ dFTx eFTxO (frontD (List.take n_2000 b) n_0 i_9).1.way))=t_h b_1.way)/\(∃ (b_2:Front),(cnRs (frozenRs (typ dNote eNoteO (frontD (List.take n_2000 b) n_0 i_9).1.disk.notes))=t_e b_2.disk.notes/\(frontD (List.take n_2000 b) n_0 i_9).1.disk.safe=b_2.disk.safe/\cnRs (frozenRs (typ dFTx eFTxO (frontD (List.take n_2000 b) n_0 i_9).1.way))=t_h b_2.way)/\(∃ (b_3:y_32),(cnRs (frozenRs (typ dMsg eMsg (tickF b_1)))=t_g b_3.1/\cnRs (frozenRs (typ dMsg eMsg (tickF b_2)))=t_g b_3.2)/\((!decide (b_3.1=b_3.2))=true->false=true)/\((!decide (b_3.1=b_3.2))=false->∃ (b_4:Front),(cnRs (frozenRs (typ dNote eNoteO (frontD (List.take n_2000 b) n_0 i_9).1.disk.notes))=t_e b_4.disk.notes/\(frontD (List.take n_2000 b) n_0 i_9).1.disk.safe=b_4.disk.safe/\cnRs (frozenRs (typ dFTx eFTxO (frontD (List.take n_2000 b) n_0 i_9).1.way))=t_h b_4.way)/\((!froB b_4)=true->(((zi (tickF b_1).length)==i_0)=true->∃ (b:Unit),True/\true=true)/\(((zi (tickF b_1).length)==i_0)=false->false=true))/\((!froB b_4)=false->∃ (pre:Nat×Nat->Prop),∃ (μ:Nat×Nat->Nat),∃ (x0:Nat×Nat),((cnRs (frozenRs (typ dNote eNoteO (frontD (List.take n_2000 b) n_0 i_9).1.disk.notes))=cnRs (frozenRs (typ dNote eNoteO (frontD (List.take n_2000 l) n_0 i_9).1.disk.notes))/\(frontD (List.take n_2000 b) n_0 i_9).1.disk.safe=(frontD (List.take n_2000 l) n_0 i_9).1.disk.safe/\cnRs (frozenRs (typ dFTx eFTxO (frontD (List.take n_2000 b) n_0 i_9).1.way))=cnRs (frozenRs (typ dFTx eFTxO (frontD (List.take n_2000 l) n_0 i_9).1.way)))/\q_g (tickF b_1) (tickF (frontD (List.take n_2000 l) n_0 i_9).1)/\i_0=zi x0.1/\i_0=zi x0.2/\True)/\pre x0/\(∀ (x:Nat×Nat),pre x->(decide (zi x.2<(zi (frontD (List.take n_2000 l) n_0 i_9).1.way.length))=true->(i_0<=zi x.2/\zi x.2<(zi (frontD (List.take n_2000 l) n_0 i_9).1.way.length))/\(∃ (pre_1:y_33->Prop),∃ (μ_1:y_33->Nat),∃ (x0:y_33),(k_1/\k_2/\zi x.1=zi x0.1/\zi x.2=zi x0.2.1/\((g_FTx (frontD (List.take n_2000 l) n_0 i_9).1.way x.2).tx=x0.2.2.1/\(g_FTx (frontD (List.take n_2000 l) n_0 i_9).1.way x.2).op.kind=x0.2.2.2.1/\(g_FTx (frontD (List.take n_2000 l) n_0 i_9).1.way x.2).op.who=x0.2.2.2.2.1/\(g_FTx (frontD (List.take n_2000 l) n_0 i_9).1.way x.2).op.inn=x0.2.2.2.2.2.1/\(g_FTx (frontD (List.take n_2000 l) n_0 i_9).1.way x.2).op.code=x0.2.2.2.2.2.2.1/\(g_FTx (frontD (List.take n_2000 l) n_0 i_9).1.way x.2).op.sec=x0.2.2.2.2.2.2.2.1/\(g_FTx (frontD (List.take n_2000 l) n_0 i_9).1.way x.2).op.fam=x0.2.2.2.2.2.2.2.2.1/\(g_FTx (frontD (List.take n_2000 l) n_0 i_9).1.way x.2).op.gen=x0.2.2.2.2.2.2.2.2.2.1/\(g_FTx (frontD (List.take n_2000 l) n_0 i_9).1.way x.2).yes=x0.2.2.2.2.2.2.2.2.2.2.1/\cnRs (frozenRs (typ i_0 eI (g_FTx (frontD (List.take n_2000 l) n_0 i_9).1.way x.2).can))=t_I x0.2.2.2.2.2.2.2.2.2.2.2.1/\cnRs (frozenRs (typ i_0 eI (g_FTx (frontD (List.take n_2000 l) n_0 i_9).1.way x.2).know))=t_I x0.2.2.2.2.2.2.2.2.2.2.2.2.1)/\i_1=zi x0.2.2.2.2.2.2.2.2.2.2.2.2.2/\True)/\pre_1 x0/\(∀ (x_1:y_33),let k_5:Prop:=∃ (y:y_33),(k_1/\k_2/\zi x_1.1=zi y.1/\zi x_1.2.1=zi y.2.1/\(x_1.2.2.1=y.2.2.1/\x_1.2.2.2.1=y.2.2.2.1/\x_1.2.2.2.2.1=y.2.2.2.2.1/\x_1.2.2.2.2.2.1=y.2.2.2.2.2.1/\x_1.2.2.2.2.2.2.1=y.2.2.2.2.2.2.1/\x_1.2.2.2.2.2.2.2.1=y.2.2.2.2.2.2.2.1/\x_1.2.2.2.2.2.2.2.2.1=y.2.2.2.2.2.2.2.2.1/\x_1.2.2.2.2.2.2.2.2.2.1=y.2.2.2.2.2.2.2.2.2.1/\x_1.2.2.2.2.2.2.2.2.2.2.1=y.2.2.2.2.2.2.2.2.2.2.1/\q_I x_1.2.2.2.2.2.2.2.2.2.2.2.1 y.2.2.2.2.2.2.2.2.2.2.2.1/\q_I x_1.2.2.2.2.2.2.2.2.2.2.2.2.1 y.2.2.2.2.2.2.2.2.2.2.2.2.1)/\wr_ ((zi x_1.2.2.2.2.2.2.2.2.2.2.2.2.2)+i_1)=zi y.2.2.2.2.2.2.2.2.2.2.2.2.2/\True)/\pre_1 y/\μ_1 y<μ_1 x_1;let k_4:Prop:=∃ (y:y_33),(k_1/\k_2/\wr_ ((zi x_1.1)+i_1)=zi y.1/\zi x_1.2.1=zi y.2.1/\(x_1.2.2.1=y.2.2.1/\x_1.2.2.2.1=y.2.2.2.1/\x_1.2.2.2.2.1=y.2.2.2.2.1/\x_1.2.2.2.2.2.1=y.2.2.2.2.2.1/\x_1.2.2.2.2.2.2.1=y.2.2.2.2.2.2.1/\x_1.2.2.2.2.2.2.2.1=y.2.2.2.2.2.2.2.1/\x_1.2.2.2.2.2.2.2.2.1=y.2.2.2.2.2.2.2.2.1/\x_1.2.2.2.2.2.2.2.2.2.1=y.2.2.2.2.2.2.2.2.2.1/\x_1.2.2.2.2.2.2.2.2.2.2.1=y.2.2.2.2.2.2.2.2.2.2.1/\q_I x_1.2.2.2.2.2.2.2.2.2.2.2.1 y.2.2.2.2.2.2.2.2.2.2.2.1/\q_I x_1.2.2.2.2.2.2.2.2.2.2.2.2.1 y.2.2.2.2.2.2.2.2.2.2.2.2.1)/\wr_ ((zi x_1.2.2.2.2.2.2.2.2.2.2.2.2.2)+i_1)=zi y.2.2.2.2.2.2.2.2.2.2.2.2.2/\True)/\pre_1 y/\μ_1 y<μ_1 x_1;let k_3:Prop:=((!x_1.2.2.2.2.2.2.2.2.2.2.1)=true->∃ (b:Opr),(x_1.2.2.2.1=b.kind/\x_1.2.2.2.2.1=b.who/\x_1.2.2.2.2.2.1=b.inn/\x_1.2.2.2.2.2.2.1=b.code/\x_1.2.2.2.2.2.2.2.1=b.sec/\x_1.2.2.2.2.2.2.2.2.1=b.fam/\x_1.2.2.2.2.2.2.2.2.2.1=b.gen)/\(∃ (b_5:List Int×Int),(cnRs (frozenRs (typ i_0 eI (placesL b)))=t_I b_5.1/\zi x_1.2.2.2.2.2.2.2.2.2.2.2.2.2=b_5.2)/\((b_5.1.any fun (x:Int)=>x==b_5.2)=true->∃ (b:List Int×Int),(q_I x_1.2.2.2.2.2.2.2.2.2.2.2.1 b.1/\zi x_1.2.2.2.2.2.2.2.2.2.2.2.2.2=b.2)/\((!b.1.any fun (x:Int)=>x==b.2)=true->k_4)/\((!b.1.any fun (x:Int)=>x==b.2)=false->k_5))/\((b_5.1.any fun (x:Int)=>x==b_5.2)=false->k_5)))/\((!x_1.2.2.2.2.2.2.2.2.2.2.1)=false->k_5);pre_1 x_1->(decide (zi x_1.2.2.2.2.2.2.2.2.2.2.2.2.2<=i_3)=true->(x_1.2.2.2.2.2.2.2.2.2.2.1=true->∃ (b:List Int×Int),(q_I x_1.2.2.2.2.2.2.2.2.2.2.2.2.1 b.1/\zi x_1.2.2.2.2.2.2.2.2.2.2.2.2.2=b.2)/\((!b.1.any fun (x:Int)=>x==b.2)=false->k_3)/\((!b.1.any fun (x:Int)=>x==b.2)=true->k_4))/\(x_1.2.2.2.2.2.2.2.2.2.2.1=false->k_3))/\(decide (zi x_1.2.2.2.2.2.2.2.2.2.2.2.2.2<=i_3)=false->∃ (y:Nat×Nat),(k_1/\k_2/\zi x_1.1=zi y.1/\wr_ ((zi x_1.2.1)+i_1)=zi y.2/\True)/\pre y/\μ y<μ x))))/\(decide (zi x.2<(zi (frontD (List.take n_2000 l) n_0 i_9).1.way.length))=false->∃ (pre:Nat×Nat->Prop),∃ (μ:Nat×Nat->Nat),∃ (x0:Nat×Nat),(k_2/\zi x.1=zi x0.1/\i_0=zi x0.2/\True)/\pre x0/\(∀ (x:Nat×Nat),let k_7:Prop:=(zi x.2).toNat<(tickF (frontD (List.take n_2000 l) n_0 i_9).1).length;let k_6:Prop:=i_0<=zi x.2/\zi x.2<(zi (tickF (frontD (List.take n_2000 l) n_0 i_9).1).length);pre x->(decide (zi x.2<(zi (tickF (frontD (List.take n_2000 l) n_0 i_9).1).length))=true->k_6/\k_7/\(∃ (b:Msg),((g_Msg (tickF (frontD (List.take n_2000 l) n_0 i_9).1) x.2).kind=b.kind/\(g_Msg (tickF (frontD (List.take n_2000 l) n_0 i_9).1) x.2).to=b.to/\(g_Msg (tickF (frontD (List.take n_2000 l) n_0 i_9).1) x.2).frm=b.frm/\(g_Msg (tickF (frontD (List.take n_2000 l) n_0 i_9).1) x.2).tx=b.tx/\(g_Msg (tickF (frontD (List.take n_2000 l) n_0 i_9).1) x.2).op.kind=b.op.kind/\(g_Msg (tickF (frontD (List.take n_2000 l) n_0 i_9).1) x.2).op.who=b.op.who/\(g_Msg (tickF (frontD (List.take n_2000 l) n_0 i_9).1) x.2).op.inn=b.op.inn/\(g_Msg (tickF (frontD (List.take n_2000 l) n_0 i_9).1) x.2).op.code=b.op.code/\(g_Msg (tickF (frontD (List.take n_2000 l) n_0 i_9).1) x.2).op.sec=b.op.sec/\(g_Msg (tickF (frontD (List.take n_2000 l) n_0 i_9).1) x.2).op.fam=b.op.fam/\(g_Msg (tickF (frontD (List.take n_2000 l) n_0 i_9).1) x.2).op.gen=b.op.gen)/\((!msgB b)=false->k_6/\k_7/\(((g_Msg (tickF (frontD (List.take n_2000 l) n_0 i_9).1) x.2).frm != i_0)=true->false=true)/\(((g_Msg (tickF (frontD (List.take n_2000 l) n_0 i_9).1) x.2).frm != i_0)=false->∃ (y:Nat×Nat),(k_2/\zi x.1=zi y.1/\wr_ ((zi x.2)+i_1)=zi y.2/\True)/\pre y/\μ y<μ x))/\((!msgB b)=true->false=true)))/\(decide (zi x.2<(zi (tickF (frontD (List.take n_2000 l) n_0 i_9).1).length))=false->((zi x.1==(zi (tickF (frontD (List.take n_2000 l) n_0 i_9).1).length))=true->∃ (b:Unit),True/\true=true)/\((zi x.1==(zi (tickF (frontD (List.take n_2000 l) n_0 i_9).1).length))=false->false=true))))))))))))=_ by kernel_rfl) ?_
 delta i_0 i_9 i_1 i_3 wr_ zi t_I q_I n_0 t_U q_U n_2000 t_e t_g q_g g_FTx t_h g_Msg i_1048576 y_32 y_33
 simp (config:={ maxSteps:=2000000 }) only [zza,zzb,true_and,and_true,and_self,ne_eq,cI_app,cWrtO_app,cWrtS_app,cWrtO_1,cItemO_1,opr_ex,zcast,frz_nil,nil_map,wayEq_self,Option.getD_none,Option.getD_some,if_true]
 intro _
 refine ⟨hpre,fun h=>by simp at h,fun _=>?_⟩
 generalize (frontD (List.take 2000 l) 0 9).1=f
 refine ⟨fun h=>⟨fun _=>⟨(),trivial⟩,fun h2=>?_⟩,fun h=>?_⟩
 ·have e:tickF f=[]:=by simp at h;simp [tickF,h]
  rw [e] at h2;simp at h2
 have h:froB f=true:=by simpa only [Bool.not_eq_false'] using h
 have hf:=froB_iff.1 h
 have hw:=hf.wl
 have ht:tickF f=f.way.flatMap tickT:=by rw [tickF,if_pos h]
 refine ⟨fun z=>z.2<=f.way.length/\z.1=((f.way.take z.2).flatMap tickT).length,⟨by simp,by simp⟩,fun z=>f.way.length-z.2,fun n k hp=>?_⟩
 simp only at hp
 obtain ⟨h1,h2⟩:=hp
 have hl:=tick_len (f.way.take k)
 rw [<- h2,List.length_take] at hl
 refine ⟨fun hlt=>⟨by omega,hlt,?_⟩,fun hge=>?_⟩
 ·generalize hT:f.way.getD k dFTx=T
  have hTok:okT f.disk.notes T:=hT▸hf.at_ (by omega)
  refine ⟨fun z=>∃ q:Nat,z=(n+wantN T q,k,T.tx,T.op.kind,T.op.who,T.op.inn,T.op.code,T.op.sec,T.op.fam,T.op.gen,T.yes,T.can,T.know,q)/\1<=q/\q<=4,fun z=>4-z.2.2.2.2.2.2.2.2.2.2.2.2.2,1,rfl,⟨1,by rw [wantN_one]<;>rfl,by omega,by omega⟩,fun a a1 a2 a3 a4 a5 a6 a7 a8 a9 a10 a11 a12 b hp=>?_⟩
  obtain ⟨q,hz,hb1,hb2⟩:=hp
  cases hz
  have up:=wantN_succ T (b:=b) (by omega)
  have hwl:=wantN_le T b
  have yes:b<=3->wantT T (b:Int)=true->∃ a':Nat,IntKind.i64.wrap (((n+wantN T b:Nat):Int)+1)=(a':Int)/\∃ x:Nat,IntKind.i64.wrap ((b:Int)+1)=(x:Int)/\(∃ p:Nat,(a',k,T.tx,T.op.kind,T.op.who,T.op.inn,T.op.code,T.op.sec,T.op.fam,T.op.gen,T.yes,T.can,T.know,x)=(n+wantN T p,k,T.tx,T.op.kind,T.op.who,T.op.inn,T.op.code,T.op.sec,T.op.fam,T.op.gen,T.yes,T.can,T.know,p)/\1<=p/\p<=4)/\4-x<4-b:=fun h3 hw =>
   ⟨n+wantN T (b+1),by rw [up,if_pos hw];exact wrapN (by omega),b+1,wrapN (by omega),⟨b+1,rfl,by omega,by omega⟩,by omega⟩
  have nope:b<=3->wantT T (b:Int)=false->∃ x:Nat,IntKind.i64.wrap ((b:Int)+1)=(x:Int)/\(∃ p:Nat,(n+wantN T b,k,T.tx,T.op.kind,T.op.who,T.op.inn,T.op.code,T.op.sec,T.op.fam,T.op.gen,T.yes,T.can,T.know,x)=(n+wantN T p,k,T.tx,T.op.kind,T.op.who,T.op.inn,T.op.code,T.op.sec,T.op.fam,T.op.gen,T.yes,T.can,T.know,p)/\1<=p/\p<=4)/\4-x<4-b:=fun h3 hw =>
   ⟨b+1,wrapN (by omega),⟨b+1,by rw [up,if_neg (by rw [hw];decide)];rfl,by omega,by omega⟩,by omega⟩
  refine ⟨fun hle=>⟨fun hy=>⟨fun e1=>⟨fun e2=>by rw [hy] at e2;simp at e2,fun _=>nope (by omega) ?_⟩,fun e1=>yes (by omega) ?_⟩,fun hy=>⟨fun e1=>⟨fun e2=>⟨fun e3=>yes (by omega) ?_,fun e3=>nope (by omega) ?_⟩,fun e2=>nope (by omega) ?_⟩,fun e1=>by rw [hy] at e1;simp at e1⟩⟩,fun hgt=>?_⟩
  ·rw [wantT,if_pos hy];exact e1
  ·rw [wantT,if_pos hy];exact e1
  ·rw [wantT,if_neg (by rw [hy];decide)];rw [e3,Bool.and_true];exact e2
  ·rw [wantT,if_neg (by rw [hy];decide)];rw [e3,Bool.and_false]
  ·rw [wantT,if_neg (by rw [hy];decide)];exact (congrArg (·&&_) e2).trans (Bool.false_and _)
  ·have:b=4:=by omega
   subst this
   refine ⟨k+1,wrapN (by omega),⟨by simp only;omega,?_⟩,by simp only;omega⟩
   simp only
   rw [take_succ (d:=dFTx) (by omega),List.flatMap_append,List.length_append,<- h2,hT,wantN_all hTok]
   simp
 ·have hm:=tick_ok hf
  have hn:n=(tickF f).length:=by
   have:k=f.way.length:=by omega
   rw [h2,this,List.take_length,ht]
  have htl:=tick_len f.way
  rw [<- ht] at htl
  clear ht
  generalize tickF f=M at *
  refine ⟨fun z=>z.1=n/\z.2<=M.length,⟨rfl,by simp⟩,fun z=>M.length-z.2,fun a b hp=>?_⟩
  obtain ⟨rfl,hb⟩:=hp
  simp only at hb
  refine ⟨fun hlt=>?_,fun _=>⟨fun _=>⟨(),trivial⟩,fun h=>absurd hn h⟩⟩
  have hq:=hm _ (getD_mem' (d:=dMsg) (show b<M.length by omega))
  exact ⟨by omega,hlt,by omega,fun _=>⟨by omega,hlt,by omega,fun h=>absurd hq.2 h,fun _=>⟨b+1,wrapN (by omega),⟨rfl,by simp only;omega⟩,by simp only;omega⟩⟩,fun h=>by rw [hq.1] at h;simp at h⟩
end Go.Proofs.AI
