/- What the function of this law does, in data. Conditions: none. -/
import Derived.KernelRfl
import Derived.IntWalk
import Derived.Test.YthahcnabgjgpfaaGreatDoorProg
import Derived.Test.YthahcnabgjgpfaaGreatDoorK04
namespace Go.Proofs.AI
open Go.RowKit
set_option linter.unusedVariables false
set_option linter.unusedSimpArgs false
theorem wayEq_self (p:Way):wayEq p p↔True:=⟨fun _=>trivial,fun _=>rfl⟩
end Go.Proofs.AI
namespace Go.Proofs.AI
open Go.RowKit Go.Proofs
set_option linter.unusedVariables false
set_option linter.unusedSimpArgs false
set_option maxRecDepth 100000
theorem ext_getD {α:Type} {xs ys:List α} {d:α} (hl:xs.length=ys.length) (h:∀ j,j<xs.length->xs.getD j d=ys.getD j d):xs=ys:=by
 refine List.ext_getElem hl fun j h1 h2=>?_
 have:=h j h1
 rwa [getD_lt h1,getD_lt h2] at this
theorem Disk_ext {a b:Disk} (h0:a.notes=b.notes) (h1:a.safe=b.safe):a=b:=by cases a;cases b;simp_all
abbrev cKFTxS (x:FTx):List SC:=[.c (.n .i64 x.tx),.c (.n .i64 x.op.kind),.c (.n .i64 x.op.who),.c (.n .i64 x.op.inn),.c (.n .i64 x.op.code),.c (.n .i64 x.op.sec),.c (.n .i64 x.op.fam),.c (.n .i64 x.op.gen),.c (.b x.yes),.c (sI x.can),.c (sI x.know)]
abbrev kFTxS (x:FTx):Ky:=⟨.agg,cKFTxS x,[]⟩
theorem Front_ext {a b:Front} (h0:a.disk=b.disk) (h1:a.way=b.way):a=b:=by cases a;cases b;simp_all
abbrev y_30:Type:=List Wrt×List Wrt
abbrev y_31:Type:=List Note×List Note
abbrev y_32:Type:=List Msg×List Msg
end Go.Proofs.AI
namespace Go.Proofs.AI
open Go.RowKit Go.Proofs
set_option linter.unusedVariables false
set_option linter.unusedSimpArgs false
set_option maxRecDepth 100000
theorem laws_jaInts_ok (xs:List Int) (ys:List Int):FunOK Tryz.prog 90 2 [] [(0,k1 (sI xs)),(1,k1 (sI ys))] (·=[(2,kB (decide (xs=ys)))]):=by
 refine fun_to (E:=⟨tab,ctOf [],26,[],[(0,[0,1]),(1,[0,1,10]),(2,[4]),(3,[0,1,5]),(4,[0,1,5,14]),(5,[0,1,5]),(6,[0,1,5,25]),(7,[4]),(8,[4])],[(0,⟨Nat,fun x=>[(0,(k1 (.sh 3 (typ (0:Int) eI xs)))),(1,(k1 (.sh 3 (typ (0:Int) eI ys)))),(5,(k1 (.n .i64 (x:Int))))]⟩)],[],[],[]⟩) tab_ok mixed Tryz.func90 rfl Tryz.ntmps90 (rvs:=[.tmp 4]) Tryz.results90 rfl fun hl=>?_
 refine cast (show ((((zi xs.length) != zi ys.length)=true->false=decide (xs=ys))/\(((zi xs.length) != zi ys.length)=false->∃ (pre:Nat->Prop),∃ (μ:Nat->Nat),∃ (x0:Nat),(q_I xs xs/\q_I ys ys/\i_0=zi x0)/\pre x0/\∀ (x:Nat),pre x->(decide (zi x<zi xs.length)=true->(i_0<=zi x/\zi x<zi xs.length)/\(i_0<=zi x/\zi x<zi ys.length)/\((g_Int xs x != g_Int ys x)=true->false=decide (xs=ys))/\((g_Int xs x != g_Int ys x)=false->∃ (y:Nat),(q_I xs xs/\q_I ys ys/\wr_ ((zi x)+i_1)=zi y)/\pre y/\μ y<μ x))/\(decide (zi x<zi xs.length)=false->true=decide (xs=ys))))=_ by kernel_rfl) ?_
 delta i_0 i_1 wr_ g_Int zi t_I q_I
 have hx:xs.length<=9223372036854775807:=hl.1 _ (List.mem_singleton.2 rfl)
 refine ⟨fun h=>?_,fun h=>⟨fun i=>i<=xs.length/\∀ j,j<i->xs.getD j 0=ys.getD j 0,fun i=>xs.length-i,0,by simp,by simp,fun x hp=>?_⟩⟩
 ·simp only [bne_iff_ne,ne_eq] at h
  exact (decide_eq_false fun he=>h (by rw [he])).symm
 ·have hlen:xs.length=ys.length:=by
                      have:(xs.length:Int)=ys.length:=by simpa [bne] using h
                      omega
  obtain ⟨h1,h2⟩:=hp
  refine ⟨fun hlt=>?_,fun hge=>?_⟩
  ·have hlt:x<xs.length:=by simpa using hlt
   refine ⟨⟨by omega,by omega⟩,⟨by omega,by omega⟩,fun he=>?_,fun he=>⟨x+1,⟨rfl,rfl,wrapN (by omega)⟩,⟨by omega,below_succ h2 ?_⟩,muN hlt⟩⟩
   ·simp only [Int.toNat_natCast,bne_iff_ne,ne_eq] at he
    exact (decide_eq_false fun h=>he (by rw [h])).symm
   ·simpa [bne] using he
  ·have:x=xs.length:=by simp at hge;omega
   subst this
   exact (decide_eq_true (ext_getD hlen h2)).symm
def laws_jaInts_c:Con Tryz.prog:=con0 [.lend,.lend] fun b:List Int×List Int=>laws_jaInts_ok (b.1) (b.2)
end Go.Proofs.AI
namespace Go.Proofs.AI
open Go.RowKit Go.Proofs
set_option linter.unusedVariables false
set_option linter.unusedSimpArgs false
set_option maxRecDepth 100000
theorem opr_ex' {o:Opr} {P:Opr->Prop}:(∃ x:Opr,(o.kind=x.kind/\o.who=x.who/\o.inn=x.inn/\o.code=x.code/\o.sec=x.sec/\o.fam=x.fam/\o.gen=x.gen)/\P x)↔P o :=
 ⟨fun ⟨x,⟨h1,h2,h3,h4,h5,h6,h7⟩,h⟩=>by cases o;cases x;simp_all,fun h=>⟨o,⟨rfl,rfl,rfl,rfl,rfl,rfl,rfl⟩,h⟩⟩
theorem impl_OpPlaces_ok (o:Opr):FunOK Tryz.prog 33 1 [] [(0,kOp o)] (·=[(1,k1 (oI (placesL o)))]):=by
 refine fun_to (E:=⟨tab,ctOf [impl_OpOk_c],23,[],[(0,[1,11,21,22]),(1,[1,3,11,21,22]),(2,[2,11,21,22]),(3,[1,7,11,21,22]),(4,[2,11,21,22]),(5,[11,12,21,22]),(6,[2,11,21,22]),(7,[2,11,21,22])],[],[],[],[]⟩) tab_ok mixed Tryz.func33 rfl Tryz.ntmps33 (rvs:=[.tmp 2]) Tryz.results33 rfl fun hl=>?_
 refine cast (show (let k_1:Prop:=cnRs (typ i_0 (fun (y:Int)=>[cn_ y]) [i_1,i_2,i_3])=t_I (placesL o);∃ (b:Opr),(o.kind=b.kind/\o.who=b.who/\o.inn=b.inn/\o.code=b.code/\o.sec=b.sec/\o.fam=b.fam/\o.gen=b.gen)/\((!opOk b)=true->(placesL o).length=n_0)/\((!opOk b)=false->((o.kind==i_1)=true->cnRs (typ i_0 (fun (y:Int)=>[cn_ y]) [i_1,i_3])=t_I (placesL o))/\((o.kind==i_1)=false->((o.kind==i_2)=false->((o.kind==i_5)=true->k_1)/\((o.kind==i_5)=false->cnRs (typ i_0 (fun (y:Int)=>[cn_ y]) [i_2,i_3])=t_I (placesL o)))/\((o.kind==i_2)=true->k_1))))=_ by kernel_rfl) ?_
 delta i_0 i_1 i_5 i_2 i_3 t_I n_0 cn_
 simp only [opr_ex',placesL]
 repeat' (first | apply And.intro | intro)
 all_goals (simp_all)
def impl_OpPlaces_c:Con Tryz.prog:=con0 [.lend] fun b:Opr=>impl_OpPlaces_ok b
end Go.Proofs.AI
namespace Go.Proofs.AI
open Go.RowKit Go.Proofs
set_option linter.unusedVariables false
set_option linter.unusedSimpArgs false
set_option maxRecDepth 100000
theorem slices_Clone_int_ok (vs:List Int) (hpre:0<vs.length/\vs.length<=1000):FunOK Tryz.prog 117 1 [] [(0,k1 (sI vs))] (·=[(1,k1 (oI vs))]):=by
 refine fun_to (E:=⟨tab,ctOf [],8,[],[(0,[0,5,6,7]),(1,[0,4,5,6,7]),(2,[0,2,5,6,7]),(3,[0,2,5,6,7])],[],[],[],[]⟩) tab_ok mixed Tryz.func117 rfl Tryz.ntmps117 (rvs:=[.tmp 2]) Tryz.results117 rfl fun hl=>?_
 refine cast (show (n_0<vs.length/\((if false=true then true else false)=true->vs.length=n_0)/\((if false=true then true else false)=false->(n_0+vs.length)*n_8<=n_140737488355328/\cnRs (appR (raw []) (typ i_0 eI vs))=t_I vs))=_ by kernel_rfl) ?_
 delta i_0 t_I n_0 n_8 n_140737488355328
 simp only [zza,true_and,and_true,and_self,ne_eq,cI_app,cWrtO_app,cWrtS_app,cWrtO_1,cItemO_1,opr_ex,zcast,frz_nil,nil_map]
 refine ⟨hpre.1,fun h=>by simp at h,fun _=>⟨by omega,?_⟩⟩
 simp [cI]
theorem eqB_iff' {a b:ByteArray}:eqB a b=true↔a=b:=by
 simp only [eqB,beq_iff_eq,ByteArray.toList_eq,Array.toList_inj]
 exact ⟨fun h=>ByteArray.ext h,fun h=>by rw [h]⟩
end Go.Proofs.AI
namespace Go.Proofs.AI
open Go.RowKit Go.Proofs
set_option linter.unusedVariables false
set_option linter.unusedSimpArgs false
set_option maxRecDepth 100000
theorem tl_eq {a b:ByteArray}:(a.toList==b.toList)=decide (a=b):=by
 rw [Bool.eq_iff_iff,decide_eq_true_eq]
 exact eqB_iff' (a:=a) (b:=b)
theorem len_ne {m n:Nat} (h:((m:Int) != (n:Int))=false):m=n:=by
 simp [bne] at h;omega
end Go.Proofs.AI
namespace Go.Proofs.AI
open Go.RowKit Go.Proofs
set_option linter.unusedVariables false
set_option linter.unusedSimpArgs false
set_option maxRecDepth 100000
theorem wrt_ext {a b:Wrt} (h1:a.key=b.key) (h2:a.del=b.del) (h3:a.val=b.val):a=b:=by cases a;cases b;simp_all
theorem laws_jaTexts_ok (a:List ByteArray) (b:List ByteArray):FunOK Tryz.prog 170 2 [] [(0,k1 (sS a)),(1,k1 (sS b))] (·=[(2,kB (decide (a=b)))]):=by
 refine fun_to (E:=⟨tab,ctOf [],26,[],[(0,[0,1]),(1,[0,1,10]),(2,[4]),(3,[0,1,5]),(4,[0,1,5,14]),(5,[0,1,5]),(6,[0,1,5,25]),(7,[4]),(8,[4])],[(0,⟨Nat,fun x=>[(0,(k1 (.sh 9 (typ ByteArray.empty eS a)))),(1,(k1 (.sh 9 (typ ByteArray.empty eS b)))),(5,(k1 (.n .i64 (x:Int))))]⟩)],[],[],[]⟩) tab_ok mixed Tryz.func170 rfl Tryz.ntmps170 (rvs:=[.tmp 4]) Tryz.results170 rfl fun hl=>?_
 refine cast (show ((((zi a.length) != zi b.length)=true->false=decide (a=b))/\(((zi a.length) != zi b.length)=false->∃ (pre:Nat->Prop),∃ (μ:Nat->Nat),∃ (x0:Nat),(q_S a a/\q_S b b/\i_0=zi x0)/\pre x0/\∀ (x:Nat),pre x->(decide (zi x<zi a.length)=true->(i_0<=zi x/\zi x<zi a.length)/\(i_0<=zi x/\zi x<zi b.length)/\((!(g_ByteArray a x).toList==(g_ByteArray b x).toList)=true->false=decide (a=b))/\((!(g_ByteArray a x).toList==(g_ByteArray b x).toList)=false->∃ (y:Nat),(q_S a a/\q_S b b/\wr_ ((zi x)+i_1)=zi y)/\pre y/\μ y<μ x))/\(decide (zi x<zi a.length)=false->true=decide (a=b))))=_ by kernel_rfl) ?_
 delta i_0 i_1 wr_ zi t_S q_S g_ByteArray
 have hx:a.length<=9223372036854775807:=hl.1 _ (List.mem_singleton.2 rfl)
 simp only [zza,true_and,and_true,and_self,ne_eq,cI_app,cWrtO_app,cWrtS_app,cWrtO_1,cItemO_1,opr_ex,zcast,frz_nil,nil_map]
 refine ⟨fun h=>?_,fun h=>?_⟩
 ·exact (decide_eq_false fun he=>h (by rw [he])).symm
 have hlen:=len_ne h
 refine ⟨fun i=>i<=a.length/\∀ j,j<i->a.getD j ByteArray.empty=b.getD j ByteArray.empty,⟨by omega,fun j hj=>absurd hj (Nat.not_lt_zero _)⟩,fun i=>a.length-i,fun i hp=>?_⟩
 obtain ⟨h1,h2⟩:=hp
 refine ⟨fun hlt=>⟨by omega,hlt,by omega,by omega,fun e=>?_,fun e=>⟨i+1,wrapN (by omega),⟨by omega,below_succ h2 ?_⟩,by simp only;omega⟩⟩,fun hge=>?_⟩
 ·rw [tl_eq] at e
  have e:¬ a.getD i ByteArray.empty=b.getD i ByteArray.empty:=by simpa using e
  exact (decide_eq_false fun he=>e (by rw [he])).symm
 ·rw [tl_eq] at e
  simpa using e
 ·exact (decide_eq_true (ext_getD (d:=ByteArray.empty) hlen fun j hj=>h2 j (by omega))).symm
def laws_jaTexts_c:Con Tryz.prog:=con0 [.lend,.lend] fun b:List ByteArray×List ByteArray=>laws_jaTexts_ok (b.1) (b.2)
theorem laws_jaWrites_ok (a:List Wrt) (b:List Wrt):FunOK Tryz.prog 171 2 [] [(0,k1 (sWrts a)),(1,k1 (sWrts b))] (·=[(2,kB (decide (a=b)))]):=by
 refine fun_to (E:=⟨tab,ctOf [laws_jaInts_c],55,[],[(0,[0,1]),(1,[0,1,10]),(2,[4]),(3,[0,1,5]),(4,[0,1,5,14]),(5,[0,1,5]),(6,[0,1,5,54]),(7,[4]),(8,[4])],[(0,⟨Nat,fun x=>[(0,(k1 (.sh 94 (typ dWrt eWrtS a)))),(1,(k1 (.sh 94 (typ dWrt eWrtS b)))),(5,(k1 (.n .i64 (x:Int))))]⟩)],[],[],[]⟩) tab_ok mixed Tryz.func171 rfl Tryz.ntmps171 (rvs:=[.tmp 4]) Tryz.results171 rfl fun hl=>?_
 refine cast (show ((((zi a.length) != zi b.length)=true->false=decide (a=b))/\(((zi a.length) != zi b.length)=false->∃ (pre:Nat->Prop),∃ (μ:Nat->Nat),∃ (x0:Nat),(q_c a a/\q_c b b/\i_0=zi x0)/\pre x0/\(∀ (x:Nat),let k_2:Prop:=i_0<=zi x/\zi x<zi a.length;let k_1:Prop:=i_0<=zi x/\zi x<zi b.length;pre x->(decide (zi x<zi a.length)=true->k_2/\k_1/\((!(g_Wrt a x).key.toList==(g_Wrt b x).key.toList)=false->k_2/\k_1/\((if true=true then !(g_Wrt a x).del==(g_Wrt b x).del else (g_Wrt a x).del==(g_Wrt b x).del)=false->k_2/\k_1/\(∃ (b_1:y_10),(q_I (g_Wrt a x).val b_1.1/\q_I (g_Wrt b x).val b_1.2)/\((!decide (b_1.1=b_1.2))=true->false=decide (a=b))/\((!decide (b_1.1=b_1.2))=false->∃ (y:Nat),(q_c a a/\q_c b b/\wr_ ((zi x)+i_1)=zi y)/\pre y/\μ y<μ x)))/\((if true=true then !(g_Wrt a x).del==(g_Wrt b x).del else (g_Wrt a x).del==(g_Wrt b x).del)=true->false=decide (a=b)))/\((!(g_Wrt a x).key.toList==(g_Wrt b x).key.toList)=true->false=decide (a=b)))/\(decide (zi x<zi a.length)=false->true=decide (a=b)))))=_ by kernel_rfl) ?_
 delta i_0 i_1 wr_ zi t_I q_I g_Wrt t_c q_c y_10
 have hx:a.length<=9223372036854775807:=hl.1 _ (List.mem_singleton.2 rfl)
 simp only [zza,true_and,and_true,and_self,ne_eq,cI_app,cWrtO_app,cWrtS_app,cWrtO_1,cItemO_1,opr_ex,zcast,frz_nil,nil_map]
 refine ⟨fun h=>?_,fun h=>?_⟩
 ·exact (decide_eq_false fun he=>h (by rw [he])).symm
 have hlen:=len_ne h
 simp only [i1,if_true]
 refine ⟨fun i=>i<=a.length/\∀ j,j<i->a.getD j dWrt=b.getD j dWrt,⟨by omega,fun j hj=>absurd hj (Nat.not_lt_zero _)⟩,fun i=>a.length-i,fun i hp=>?_⟩
 obtain ⟨h1,h2⟩:=hp
 refine ⟨fun hlt=>⟨by omega,hlt,by omega,by omega,fun e1=>⟨by omega,hlt,by omega,by omega,fun e2=>⟨by omega,hlt,by omega,by omega,fun e3=>?_,fun e3=>⟨i+1,wrapN (by omega),⟨by omega,below_succ h2 ?_⟩,by simp only;omega⟩⟩,fun e2=>?_⟩,fun e1=>?_⟩,fun hge=>?_⟩
 ·have e:¬ (a.getD i dWrt).val=(b.getD i dWrt).val:=by simpa using e3
  exact (decide_eq_false fun he=>e (by rw [he])).symm
 ·rw [tl_eq] at e1
  exact wrt_ext (by simpa using e1) (by simpa using e2) (by simpa using e3)
 ·have e:¬ (a.getD i dWrt).del=(b.getD i dWrt).del:=by simpa using e2
  exact (decide_eq_false fun he=>e (by rw [he])).symm
 ·rw [tl_eq] at e1
  have e:¬ (a.getD i dWrt).key=(b.getD i dWrt).key:=by simpa using e1
  exact (decide_eq_false fun he=>e (by rw [he])).symm
 ·exact (decide_eq_true (ext_getD (d:=dWrt) hlen fun j hj=>h2 j (by omega))).symm
def laws_jaWrites_c:Con Tryz.prog:=con0 [.lend,.lend] fun b:List Wrt×List Wrt=>laws_jaWrites_ok (b.1) (b.2)
end Go.Proofs.AI
namespace Go.Proofs.AI
open Go.RowKit Go.Proofs
set_option linter.unusedVariables false
set_option linter.unusedSimpArgs false
theorem FunOK.sh0 {P:Program} {f:FuncId} {post:L->Prop} {e:TypeId} {es:Rows CV} (h0:es.n=0)
  (h:∀ (A:Option Addr) (c:Nat),FunOK P f 1 [] [(0,⟨.one,[.c (.vl (.slice A 0 c))],[]⟩)] post):FunOK P f 1 [] [(0,⟨.one,[.c (.sh e es)],[]⟩)] post:=by
 intro F0 I0 args w hs ⟨I,U,B,F,hr⟩
 obtain ⟨k1,hroot,⟨N,n1,n2,n3⟩,k4⟩:=hr.key 0 ⟨.one,[.c (.sh e es)],[]⟩ (by simp [mk,up])
 have hrep:Rep P w I (.sh e es) (U 0 0) (N 0):=n1 0 _ rfl
 obtain ⟨A,c,us,hv,_⟩:=hrep.sh_inv
 rw [h0] at hv
 refine h A c F0 I0 args w hs ⟨I,U,B,F,{ hr with key:=fun t K hK=>?_,may:=fun t b hb=>?_ }⟩
 ·simp only [mk,up] at hK
  split at hK
  ·rename_i ht
   subst ht;cases hK
   refine ⟨k1,hroot.any rfl rfl,⟨N,fun o x hx=>?_,n2,fun o b hb=>⟨(n3 o b hb).1,fun q=>by cases q.1⟩⟩,fun b hb=>by cases hb.1⟩
   cases o with
   | zero =>
    simp at hx;subst hx
    show Rep P w I (.vl (.slice A 0 c)) (U 0 0) (N 0)
    rw [hv];exact .vl rfl
   | succ o=>simp at hx
  ·cases hK
 ·rcases hr.may t b hb with h1 | h1 | ⟨K,h1,h2,_⟩
  ·exact .inl h1
  ·exact .inr (.inl h1)
  ·simp only [mk,up] at h1
   split at h1
   ·cases h1;cases h2.1
   ·cases h1
end Go.Proofs.AI
namespace Go.Proofs.AI
open Go.RowKit Go.Proofs
set_option linter.unusedVariables false
set_option linter.unusedSimpArgs false
set_option maxRecDepth 100000
theorem CloneSz_ok (A:Option Addr) (q:Nat):FunOK Tryz.prog 172 1 [] [(0,k1 (.vl (.slice A 0 q)))] (·=[(1,k1 (oS []))]):=by
 refine fun_to (E:=⟨tab,ctOf [],8,[],[(0,[0,5,6,7]),(1,[0,4,5,6,7]),(2,[0,2,5,6,7]),(3,[0,2,5,6,7])],[],[],[],[]⟩) tab_ok mixed Tryz.func172 rfl Tryz.ntmps172 (rvs:=[.tmp 2]) Tryz.results172 rfl fun hl=>?_
 refine cast (show (True/\((if false=true then !A.isNone else A.isNone)=true->n_0=n_0)/\((if false=true then !A.isNone else A.isNone)=false->(n_0+n_0)*n_16<=n_140737488355328/\cnRs (appR (raw []) nilR)=t_S []))=_ by kernel_rfl) ?_
 delta n_0 n_140737488355328 t_S n_16
 simp only [zza,zzb,true_and,and_true,and_self,ne_eq,cI_app,cWrtO_app,cWrtS_app,cWrtO_1,cItemO_1,opr_ex,zcast,frz_nil,nil_map,Option.getD_none,Option.getD_some]
 cases A<;>simp
theorem CloneSp_ok (xs:List ByteArray) (hpre:0<xs.length/\xs.length<=1000):FunOK Tryz.prog 172 1 [] [(0,k1 (sS xs))] (·=[(1,k1 (oS xs))]):=by
 refine fun_to (E:=⟨tab,ctOf [],8,[],[(0,[0,5,6,7]),(1,[0,4,5,6,7]),(2,[0,2,5,6,7]),(3,[0,2,5,6,7])],[],[],[],[]⟩) tab_ok mixed Tryz.func172 rfl Tryz.ntmps172 (rvs:=[.tmp 2]) Tryz.results172 rfl fun hl=>?_
 refine cast (show (n_0<xs.length/\((if false=true then true else false)=true->xs.length=n_0)/\((if false=true then true else false)=false->(n_0+xs.length)*n_16<=n_140737488355328/\cnRs (appR (raw []) (typ ByteArray.empty eS xs))=t_S xs))=_ by kernel_rfl) ?_
 delta n_0 n_140737488355328 t_S n_16
 simp only [zza,zzb,true_and,and_true,and_self,ne_eq,cI_app,cWrtO_app,cWrtS_app,cWrtO_1,cItemO_1,opr_ex,zcast,frz_nil,nil_map,Option.getD_none,Option.getD_some]
 refine ⟨hpre.1,fun h=>by simp at h,fun _=>⟨by omega,?_⟩⟩
 simp
theorem CloneIz_ok (A:Option Addr) (q:Nat):FunOK Tryz.prog 117 1 [] [(0,k1 (.vl (.slice A 0 q)))] (·=[(1,k1 (oI []))]):=by
 refine fun_to (E:=⟨tab,ctOf [],8,[],[(0,[0,5,6,7]),(1,[0,4,5,6,7]),(2,[0,2,5,6,7]),(3,[0,2,5,6,7])],[],[],[],[]⟩) tab_ok mixed Tryz.func117 rfl Tryz.ntmps117 (rvs:=[.tmp 2]) Tryz.results117 rfl fun hl=>?_
 refine cast (show (True/\((if false=true then !A.isNone else A.isNone)=true->n_0=n_0)/\((if false=true then !A.isNone else A.isNone)=false->(n_0+n_0)*n_8<=n_140737488355328/\cnRs (appR (raw []) nilR)=t_I []))=_ by kernel_rfl) ?_
 delta t_I n_0 n_8 n_140737488355328
 simp only [zza,zzb,true_and,and_true,and_self,ne_eq,cI_app,cWrtO_app,cWrtS_app,cWrtO_1,cItemO_1,opr_ex,zcast,frz_nil,nil_map,Option.getD_none,Option.getD_some]
 cases A<;>simp
theorem CloneS_ok (xs:List ByteArray) (hpre:xs.length<=1000):FunOK Tryz.prog 172 1 [] [(0,k1 (sS xs))] (·=[(1,k1 (oS xs))]):=by
 rcases Nat.eq_zero_or_pos xs.length with h | h
 ·obtain rfl:=List.length_eq_zero_iff.1 h
  exact FunOK.sh0 rfl CloneSz_ok
 ·exact CloneSp_ok xs ⟨h,hpre⟩
def CloneS_c:Con Tryz.prog:=conP [.lend] fun (b:List ByteArray) h=>CloneS_ok b h
theorem CloneI_ok (xs:List Int) (hpre:xs.length<=1000):FunOK Tryz.prog 117 1 [] [(0,k1 (sI xs))] (·=[(1,k1 (oI xs))]):=by
 rcases Nat.eq_zero_or_pos xs.length with h | h
 ·obtain rfl:=List.length_eq_zero_iff.1 h
  exact FunOK.sh0 rfl CloneIz_ok
 ·exact slices_Clone_int_ok xs ⟨h,hpre⟩
def CloneI_c:Con Tryz.prog:=conP [.lend] fun (b:List Int) h=>CloneI_ok b h
theorem impl_writesOf_ok (ws:List Wrt) (hpre:ws.length<=1000/\∀ w∈ws,w.val.length<=1000):FunOK Tryz.prog 173 1 [] [(0,k1 (sWrts ws))] (·=[(1,k1 (oWrts ws))]):=by
 refine fun_to (E:=⟨tab,ctOf [CloneI_c],25,[],[(0,[0,3,12,14,16,19,20,21,22]),(1,[0,3,12,14,16,19,20,21,22]),(2,[0,3,6,7,8,12,14,16,19,20,21,22]),(3,[0,3,6,7,8,9,12,14,16,19,20,21,22]),(4,[0,3,5,6,7,8,12,14,16,19,20,21,22]),(5,[0,3,6,7,8,12,14,16,19,20,21,22]),(6,[0,3,6,7,8,12,14,16,19,20,21,22]),(7,[2,3,12,14,16,19,20,21,22,24])],[(0,⟨List Wrt×Nat,fun x=>[(0,(k1 (.sh 94 (typ dWrt eWrtS ws)))),(3,(k1 (oWrts (x.1)))),(6,(k1 (.sh 94 (typ dWrt eWrtS ws)))),(7,(k1 (.n .i64 ((↑ws.length:Int))))),(8,(k1 (.n .i64 (x.2:Int))))]⟩)],[(7,[(1000000,[])])],[],[]⟩) tab_ok mixed Tryz.func173 rfl Tryz.ntmps173 (rvs:=[.tmp 2]) Tryz.results173 rfl fun hl=>?_
 refine cast (show (∃ (pre:List Wrt×Nat->Prop),∃ (μ:List Wrt×Nat->Nat),∃ (x0:List Wrt×Nat),(q_c ws ws/\x0.1.length=n_0/\q_c ws ws/\zi ws.length=zi ws.length/\i_0=zi x0.2)/\pre x0/\∀ (x:List Wrt×Nat),pre x->(decide (zi x.2<zi ws.length)=true->(i_0<=zi x.2/\zi x.2<zi ws.length)/\∃ (b:List Int),q_I (g_Wrt ws x.2).val b/\b.length<=n_1000/\(x.1.length+n_1)*n_48<=n_140737488355328/\∃ (y:List Wrt×Nat),(q_c ws ws/\cnRs (appR (typ dWrt eWrtO x.1) (raw [[CV.s (g_Wrt ws x.2).key,CV.b (g_Wrt ws x.2).del,CV.ow n_3 (typ i_0 eI b)]]))=t_d y.1/\q_c ws ws/\zi ws.length=zi ws.length/\wr_ ((zi x.2)+i_1)=zi y.2)/\pre y/\μ y<μ x)/\(decide (zi x.2<zi ws.length)=false->q_d x.1 ws))=_ by kernel_rfl) ?_
 delta i_0 i_1 wr_ zi t_I q_I n_0 n_140737488355328 n_1 n_3 g_Wrt t_c q_c n_1000 t_d q_d n_48
 obtain ⟨p1,p2⟩:=hpre
 simp only [zza,zzb,true_and,and_true,and_self,ne_eq,cI_app,cWrtO_app,cWrtS_app,cWrtO_1,cItemO_1,opr_ex,zcast,frz_nil,nil_map,Option.getD_none,Option.getD_some]
 refine ⟨fun x=>x.2<=ws.length/\x.1=ws.take x.2,fun x=>ws.length-x.2,[],rfl,⟨by omega,rfl⟩,fun a i hp=>?_⟩
 obtain ⟨h1,h2⟩:=hp
 simp only at h1 h2
 subst h2
 refine ⟨fun hlt=>?_,fun hge=>?_⟩
 ·have hm:ws.getD i dWrt∈ws:=by rw [getD_lt (by omega)];exact List.getElem_mem _
  exact ⟨by omega,hlt,p2 _ hm,by rw [List.length_take];omega,i+1,wrapN (by omega),⟨by simp only;omega,(take_succ (d:=dWrt) (by omega)).symm⟩,by simp only;omega⟩
 ·have:i=ws.length:=by omega
  subst this
  simp
def impl_writesOf_c:Con Tryz.prog:=⟨173,1,[.lend],[],List Wrt,some fun b=>b.length<=1000/\∀ w∈b,w.val.length<=1000,fun b=>[(0,k1 (sWrts b))],fun b=>[(1,k1 (oWrts b))],[],fun b h=>impl_writesOf_ok b h⟩
theorem impl_LogNote_copied_ok (n:Note) (hpre:smallN n):FunOK Tryz.prog 132 1 [] [(0,kNoteS n)] (·=[(1,kNoteO n)]):=by
 refine fun_to (E:=⟨tab,ctOf [CloneS_c,impl_writesOf_c],14,[],[(0,[1,2,4,6,9,12,13]),(1,[2,4,6,9,12,13])],[],[],[],[]⟩) tab_ok mixed Tryz.func132 rfl Tryz.ntmps132 (rvs:=[.cell 2 72]) Tryz.results132 rfl fun hl=>?_
 refine cast (show (∃ (b:List ByteArray),q_S n.locks b/\b.length<=n_1000/\∃ (b_1:List Wrt),q_c n.writes b_1/\(b_1.length<=n_1000/\∀ (w:Wrt),w∈b_1->w.val.length<=n_1000)/\n.kind=n.kind/\n.tx=n.tx/\q_S b n.locks/\q_d b_1 n.writes)=_ by kernel_rfl) ?_
 delta t_c q_c n_1000 t_S t_d q_S q_d
 obtain ⟨p1,p2,p3⟩:=hpre
 simp only [zza,zzb,true_and,and_true,and_self,ne_eq,cI_app,cWrtO_app,cWrtS_app,cWrtO_1,cItemO_1,opr_ex,zcast,frz_nil,nil_map,Option.getD_none,Option.getD_some]
 exact ⟨p1,p2,p3⟩
def impl_LogNote_copied_c:Con Tryz.prog:=conP [.lend] fun (b:Note) h=>impl_LogNote_copied_ok b h
theorem impl_LogDisk_copied_ok (d:Disk) (hpre:smallD d):FunOK Tryz.prog 93 1 [] [(0,kDiskS d)] (·=[(1,kDiskO d)]):=by
 refine fun_to (E:=⟨tab,ctOf [impl_LogNote_copied_c],25,[],[(0,[1,2,3,24]),(1,[1,2,3,24]),(2,[1,2,3,9,10,11,12,24]),(3,[1,2,3,9,10,11,12,13,24]),(4,[1,2,3,5,9,10,11,12,24]),(5,[1,2,3,9,10,11,12,24]),(6,[1,2,3,9,10,11,12,24]),(7,[2,3,24])],[(0,⟨List Note×Nat,fun x=>[(1,⟨.box,[.c (.sh 72 (typ dNote eNoteS d.notes)),.c (.n .i64 d.safe)],[]⟩),(2,⟨.box,[.c (.ow 72 nilR),.c (.n .i64 ((0:Int)))],[]⟩),(3,⟨.box,[.c (oNotes (x.1)),.c (.n .i64 d.safe)],[]⟩),(9,⟨.one,[.pr 1 0 0],[]⟩),(10,(k1 (.sh 72 (typ dNote eNoteS d.notes)))),(11,(k1 (.n .i64 ((↑d.notes.length:Int))))),(12,(k1 (.n .i64 (x.2:Int))))]⟩)],[],[],[]⟩) tab_ok mixed Tryz.func93 rfl Tryz.ntmps93 (rvs:=[.cell 2 25]) Tryz.results93 rfl fun hl=>?_
 refine cast (show (let k_3:Prop:=n_1=n_1/\n_0=n_0/\true=true;let k_2:Prop:=q_e d.notes d.notes/\d.safe=d.safe;let k_1:Prop:=zi d.notes.length=zi d.notes.length;∃ (pre:List Note×Nat->Prop),∃ (μ:List Note×Nat->Nat),∃ (x0:List Note×Nat),(k_2/\(cnRs nilR=cnRs nilR/\i_0=i_0)/\(cnRs nilR=t_f x0.1/\d.safe=d.safe)/\k_3/\q_e d.notes d.notes/\k_1/\i_0=zi x0.2)/\pre x0/\(∀ (x:List Note×Nat),pre x->(decide (zi x.2<zi d.notes.length)=true->(i_0<=zi x.2/\zi x.2<zi d.notes.length)/\(∃ (b:Note),((g_Note d.notes x.2).kind=b.kind/\(g_Note d.notes x.2).tx=b.tx/\q_S (g_Note d.notes x.2).locks b.locks/\q_c (g_Note d.notes x.2).writes b.writes)/\smallN b/\(x.1.length+n_1)*n_64<=n_140737488355328/\(∃ (y:List Note×Nat),(k_2/\(cnRs nilR=cnRs nilR/\i_0=i_0)/\(cnRs (appR (typ dNote eNoteO x.1) (raw [[cn_ b.kind,cn_ b.tx,CV.ow n_9 (typ ByteArray.empty eS b.locks),CV.ow n_94 (typ dWrt eWrtO b.writes)]]))=t_f y.1/\d.safe=d.safe)/\k_3/\q_e d.notes d.notes/\k_1/\wr_ ((zi x.2)+i_1)=zi y.2)/\pre y/\μ y<μ x)))/\(decide (zi x.2<zi d.notes.length)=false->q_f x.1 d.notes/\d.safe=d.safe)))=_ by kernel_rfl) ?_
 delta i_0 i_1 wr_ zi n_0 n_140737488355328 n_1 t_c q_c cn_ t_S q_S g_Note t_e q_e t_f q_f n_64 n_9 n_94
 obtain ⟨p1,p2⟩:=hpre
 simp only [zza,zzb,true_and,and_true,and_self,ne_eq,cI_app,cWrtO_app,cWrtS_app,cWrtO_1,cItemO_1,opr_ex,zcast,frz_nil,nil_map,Option.getD_none,Option.getD_some]
 refine ⟨fun x=>x.2<=d.notes.length/\x.1=d.notes.take x.2,⟨by omega,rfl⟩,fun x=>d.notes.length-x.2,fun a i hp=>?_⟩
 obtain ⟨h1,h2⟩:=hp
 simp only at h1 h2
 subst h2
 refine ⟨fun hlt=>?_,fun hge=>?_⟩
 ·have hm:d.notes.getD i dNote∈d.notes:=by rw [getD_lt (by omega)];exact List.getElem_mem _
  refine ⟨by omega,hlt,p2 _ hm,by rw [List.length_take];omega,d.notes.take (i+1),?_,i+1,wrapN (by omega),⟨by simp only;omega,rfl⟩,by simp only;omega⟩
  rw [take_succ (d:=dNote) (by omega)]
  simp
 ·have:i=d.notes.length:=by omega
  subst this
  simp
def impl_LogDisk_copied_c:Con Tryz.prog:=conP [.lend] fun (b:Disk) h=>impl_LogDisk_copied_ok b h
end Go.Proofs.AI
namespace Go.Proofs.AI
open Go.RowKit
set_option linter.unusedVariables false
set_option linter.unusedSimpArgs false
def eqFs2 (P:Program):List CK->Nat->List Field->Bool
 | ks,_,[]=>ks.isEmpty
 | ks,j,f::fs=>(f.name != "_")&&f.offset==j&&match P.underlying f.type with
  | some (.struct gs)=>!P.stoodInHeld f.type&&decide (gs.size<=ks.length)&&decide ((P.info? f.type).map (·.size)=some gs.size)&&eqFs P (ks.take gs.size) 0 gs.toList&&eqFs2 P (ks.drop gs.size) (j+gs.size) fs
  | u=>match ks with
   | k::ks=>ckOf u k&&eqFs2 P ks (j+1) fs
   | []=>false
theorem areCK_app:∀ {ks ks':List CK} {xs:List Value},areCK (ks++ks') xs->areCK ks (xs.take ks.length)/\areCK ks' (xs.drop ks.length)
 | [],_,_,h=>⟨trivial,h⟩
 | _::_,_,[],h=>h.elim
 | _::ks,_,_::xs,h=>⟨⟨h.1,(areCK_app h.2).1⟩,(areCK_app h.2).2⟩
theorem eqL_app:∀ {a b:List Value} {c d:List Value},a.length=b.length->c.length=d.length->eqL (a++c) (b++d)=(eqL a b&&eqL c d)
 | [],[],c,d,_,_=>by simp [eqL]
 | x::a,y::b,c,d,h,h2=>by
  have h:a.length=b.length:=by simpa using h
  rw [List.cons_append,List.cons_append,eqL_cons (by simp [h,h2]),eqL_cons h,eqL_app h h2,Bool.and_assoc]
theorem run_eqFields2 {P:Program} {w:World} {xs ys:Array Value} (d:Nat):∀ (fs:List Field) (ks:List CK) (j:Nat) (a b:List Value),eqFs2 P ks j fs=true->xs.toList.drop j=a->ys.toList.drop j=b->areCK ks a->areCK ks b ->
  (Op.eqFields (d+2) xs ys fs).run P w=.ok (eqL a b) w
 | [],ks,j,a,b,h,hx,hy,ha,hb=>by
  have hk:ks=[]:=by simpa [eqFs2] using h
  subst hk
  cases a with
  | cons x a=>exact ha.elim
  | nil=>cases b with
   | cons y b=>exact hb.elim
   | nil=>simp [Op.eqFields,eqL]
 | f::fs,ks,j,a,b,h,hx,hy,ha,hb=>by
  simp only [eqFs2,Bool.and_eq_true,bne_iff_ne,beq_iff_eq] at h
  obtain ⟨⟨h1,h2⟩,h3⟩:=h
  split at h3
  ·rename_i gs hu
   simp only [Bool.and_eq_true,Bool.not_eq_true',decide_eq_true_eq] at h3
   obtain ⟨⟨⟨⟨g1,g2⟩,g3⟩,g4⟩,g5⟩:=h3
   obtain ⟨inf,e1,e2⟩:=Option.map_eq_some_iff.1 g3
   have hl:(ks.take gs.size).length=gs.size:=by rw [List.length_take];omega
   have hka:areCK (ks.take gs.size++ks.drop gs.size) a:=by rw [List.take_append_drop];exact ha
   have hkb:areCK (ks.take gs.size++ks.drop gs.size) b:=by rw [List.take_append_drop];exact hb
   obtain ⟨a1,a2⟩:=areCK_app hka
   obtain ⟨b1,b2⟩:=areCK_app hkb
   rw [hl] at a1 a2 b1 b2
   have hp:∀ (zs:Array Value) (c:List Value),zs.toList.drop j=c->(part f.type zs f.offset).run P w=.ok (.agg (zs.extract j (j+gs.size))) w:=fun zs c _=>by
    have hs:(sizeOf f.type).run P w=.ok gs.size w:=by simp [sizeOf,typeInfo,e1,e2]
    simp [part,isAgg,run_underlying hu,TypeDesc.isRow,h2,hs]
   have hxs:(xs.extract j (j+gs.size)).toList=a.take gs.size:=by simp [<- hx]
   have hys:(ys.extract j (j+gs.size)).toList=b.take gs.size:=by simp [<- hy]
   have hf:P.fieldsOf f.type=gs:=by simp [Program.fieldsOf,hu]
   have he:(Op.equalIn (d+2) f.type (.agg (xs.extract j (j+gs.size))) (.agg (ys.extract j (j+gs.size)))).run P w=.ok (eqL (a.take gs.size) (b.take gs.size)) w:=by
    rw [run_equalIn_struct w (d+1) f.type _ _ (by rw [hf];exact hu) g1,hf]
    exact run_eqFields d _ 0 gs.toList _ _ g4 (by simpa using hxs) (by simpa using hys) a1 b1
   have la:=areCK_length a1
   have lb:=areCK_length b1
   have la2:=areCK_length a2
   have lb2:=areCK_length b2
   have hab:eqL a b=(eqL (a.take gs.size) (b.take gs.size)&&eqL (a.drop gs.size) (b.drop gs.size)):=by
    rw [<- eqL_app (by omega) (by omega),List.take_append_drop,List.take_append_drop]
   rw [hab]
   simp only [Op.eqFields,h1,ne_eq,not_false_eq_true,if_true,Sem.run_bind,hp xs a hx,hp ys b hy,Result.andThen_ok,he]
   cases hc:eqL (a.take gs.size) (b.take gs.size)
   ·simp
   ·simpa using run_eqFields2 d fs (ks.drop gs.size) (j+gs.size) (a.drop gs.size) (b.drop gs.size) g5 (by rw [<- hx,List.drop_drop]) (by rw [<- hy,List.drop_drop]) a2 b2
  ·cases ks with
   | nil=>cases h3
   | cons k ks =>
    simp only [Bool.and_eq_true] at h3
    obtain ⟨h3,h4⟩:=h3
    cases a with
    | nil=>exact ha.elim
    | cons x a=>cases b with
     | nil=>exact hb.elim
     | cons y b =>
      have gx:xs[j]?=some x:=by
       have:=congrArg (·[0]?) hx
       simpa using this
      have gy:ys[j]?=some y:=by
       have:=congrArg (·[0]?) hy
       simpa using this
      have dx:xs.toList.drop (j+1)=a:=by rw [<- List.drop_drop,hx]<;>rfl
      have dy:ys.toList.drop (j+1)=b:=by rw [<- List.drop_drop,hy]<;>rfl
      have hl:a.length=b.length:=by rw [<- areCK_length ha.2,<- areCK_length hb.2]
      rw [eqL_cons hl]
      simp only [Op.eqFields,h1,ne_eq,not_false_eq_true,if_true,Sem.run_bind,h2,run_part_ck h3 gx,run_part_ck h3 gy,Result.andThen_ok,run_eq_ck h3 ha.1 hb.1 (d+1)]
      cases hc:eqC x y
      ·simp
      ·simpa using run_eqFields2 d fs ks (j+1) a b h4 dx dy ha.2 hb.2
def eqT2 (P:Program) (t:TypeId) (ks:List CK):Bool:=!P.stoodInHeld t&&!P.eqGuardType P.depth t&&match P.underlying t with
 | some (.struct fs)=>eqFs2 P ks 0 fs.toList
 | _=>false
theorem eqT2_ok {P:Program} {t:TypeId} {ks:List CK} (h:eqT2 P t ks=true) (w:World) (xs ys:Array Value) (ex ey:Operand) (hx:areCK ks xs.toList) (hy:areCK ks ys.toList) :
  (do eqGuard .eql t ex ey (.agg xs) (.agg ys);binOp .eql t (.agg xs) (.agg ys):Sem Value).run P w=.ok (.bool (eqL xs.toList ys.toList)) w /\
  (do eqGuard .neq t ex ey (.agg xs) (.agg ys);binOp .neq t (.agg xs) (.agg ys):Sem Value).run P w=.ok (.bool (!eqL xs.toList ys.toList)) w:=by
 simp only [eqT2,Bool.and_eq_true,Bool.not_eq_true'] at h
 obtain ⟨⟨h1,h2⟩,h3⟩:=h
 split at h3
 ·rename_i fs hu
  have hf:P.fieldsOf t=fs:=by simp [Program.fieldsOf,hu]
  have he:(Op.equalIn 10000 t (.agg xs) (.agg ys)).run P w=.ok (eqL xs.toList ys.toList) w:=by
   rw [run_equalIn_struct w 9999 t xs ys (by rw [hf];exact hu) h1,hf]
   exact run_eqFields2 9997 fs.toList ks 0 _ _ h3 rfl rfl hx hy
  constructor
  ·simp only [Sem.run_bind,run_eqGuard_agg _ _ _ _ _ _ _ h2,Result.andThen_ok,run_eql_struct,he]
  ·simp only [Sem.run_bind,run_eqGuard_agg _ _ _ _ _ _ _ h2,Result.andThen_ok,run_neq_struct,he]
 ·cases h3
theorem tabOf_eq2 {P:Program} {t:TypeId} {i:TyI} (h:tabOf P t=some { i with els:=[],eq:=[] }) (he:eqT2 P t i.eq=true):TyOk P t i:=by
 have:=tabOf_ok t _ h
 exact ⟨this.info,fun hne w xs ys ex ey h1 h2=>eqT2_ok he w xs ys ex ey h1 h2,this.desc⟩
end Go.Proofs.AI
namespace Go.Proofs.AI
open Go.RowKit Go.Proofs
set_option linter.unusedVariables false
set_option linter.unusedSimpArgs false
set_option maxRecDepth 100000
def tabM:Tab:=fun t=>if t=63 then some ⟨.st,11,88,[(0,1,false),(1,1,false),(2,1,false),(3,1,false),(4,7,true)],[.int .i64 0,.int .i64 0,.int .i64 0,.int .i64 0,.int .i64 0,.int .i64 0,.int .i64 0,.int .i64 0,.int .i64 0,.int .i64 0,.int .i64 0],[.n .i64,.n .i64,.n .i64,.n .i64,.n .i64,.n .i64,.n .i64,.n .i64,.n .i64,.n .i64,.n .i64],[]⟩ else tab t
theorem tabM_ok:TabOk Tryz.prog tabM:=by
 intro t i h
 unfold tabM at h
 split at h
 ·rename_i ht;subst ht;cases h;exact tabOf_eq2 rfl (by kernel_rfl)
 ·exact tab_ok t i h
theorem note_ext {a b:Note} (h1:a.kind=b.kind) (h2:a.tx=b.tx) (h3:a.locks=b.locks) (h4:a.writes=b.writes):a=b:=by cases a;cases b;simp_all
theorem msgEq (x y:Msg):(x.kind==y.kind&&(x.to==y.to&&(x.frm==y.frm&&(x.tx==y.tx&&(x.op.kind==y.op.kind&&(x.op.who==y.op.who&&(x.op.inn==y.op.inn&&(x.op.code==y.op.code&&(x.op.sec==y.op.sec&&(x.op.fam==y.op.fam&&x.op.gen==y.op.gen))))))))))=decide (x=y):=by
 rw [Bool.eq_iff_iff]
 simp only [Bool.and_eq_true,beq_iff_eq,decide_eq_true_eq]
 constructor
 ·rintro ⟨h1,h2,h3,h4,h5,h6,h7,h8,h9,h10,h11⟩
  obtain ⟨_,_,_,_,⟨_,_,_,_,_,_,_⟩⟩:=x;obtain ⟨_,_,_,_,⟨_,_,_,_,_,_,_⟩⟩:=y
  simp only at h1 h2 h3 h4 h5 h6 h7 h8 h9 h10 h11
  subst h1 h2 h3 h4 h5 h6 h7 h8 h9 h10 h11
  rfl
 ·rintro rfl;simp
theorem laws_jaNote_ok (a:Note) (b:Note):FunOK Tryz.prog 131 2 [] [(0,kNoteS a),(1,kNoteS b)] (·=[(2,kB (decide (a=b)))]):=by
 refine fun_to (E:=⟨tab,ctOf [laws_jaTexts_c,laws_jaWrites_c],31,[],[(0,[2,3]),(1,[4])],[],[],[],[]⟩) tab_ok mixed Tryz.func131 rfl Tryz.ntmps131 (rvs:=[.tmp 4]) Tryz.results131 rfl fun hl=>?_
 refine cast (show (((a.kind==b.kind)=true->((a.tx==b.tx)=true->∃ (b_1:y_16),(q_S a.locks b_1.1/\q_S b.locks b_1.2)/\(decide (b_1.1=b_1.2)=true->∃ (b_2:y_30),(q_c a.writes b_2.1/\q_c b.writes b_2.2)/\decide (b_2.1=b_2.2)=decide (a=b))/\(decide (b_1.1=b_1.2)=false->false=decide (a=b)))/\((a.tx==b.tx)=false->false=decide (a=b)))/\((a.kind==b.kind)=false->false=decide (a=b)))=_ by kernel_rfl) ?_
 delta t_c q_c t_S q_S y_16 y_30
 simp only [zza,zzb,true_and,and_true,and_self,ne_eq,cI_app,cWrtO_app,cWrtS_app,cWrtO_1,cItemO_1,opr_ex,zcast,frz_nil,nil_map,Option.getD_none,Option.getD_some]
 refine ⟨fun h1=>⟨fun h2=>⟨fun h3=>?_,fun h3=>?_⟩,fun h2=>?_⟩,fun h1=>?_⟩
 ·rw [Bool.eq_iff_iff,decide_eq_true_eq,decide_eq_true_eq];exact ⟨fun h=>note_ext h1 h2 h3 h,fun h=>by rw [h]⟩
 ·exact (decide_eq_false fun he=>h3 (by rw [he])).symm
 ·exact (decide_eq_false fun he=>h2 (by rw [he])).symm
 ·exact (decide_eq_false fun he=>h1 (by rw [he])).symm
def laws_jaNote_c:Con Tryz.prog:=con0 [.lend,.lend] fun b:Note×Note=>laws_jaNote_ok (b.1) (b.2)
theorem laws_jaNotes_ok (a:List Note) (b:List Note):FunOK Tryz.prog 92 2 [] [(0,k1 (sNotes a)),(1,k1 (sNotes b))] (·=[(2,kB (decide (a=b)))]):=by
 refine fun_to (E:=⟨tab,ctOf [laws_jaNote_c],27,[],[(0,[0,1]),(1,[0,1,10]),(2,[4]),(3,[0,1,5]),(4,[0,1,5,14]),(5,[0,1,5]),(6,[0,1,5,26]),(7,[4]),(8,[4])],[(0,⟨Nat,fun x=>[(0,(k1 (.sh 72 (typ dNote eNoteS a)))),(1,(k1 (.sh 72 (typ dNote eNoteS b)))),(5,(k1 (.n .i64 (x:Int))))]⟩)],[],[],[]⟩) tab_ok mixed Tryz.func92 rfl Tryz.ntmps92 (rvs:=[.tmp 4]) Tryz.results92 rfl fun hl=>?_
 refine cast (show ((((zi a.length) != zi b.length)=true->false=decide (a=b))/\(((zi a.length) != zi b.length)=false->∃ (pre:Nat->Prop),∃ (μ:Nat->Nat),∃ (x0:Nat),(q_e a a/\q_e b b/\i_0=zi x0)/\pre x0/\∀ (x:Nat),pre x->(decide (zi x<zi a.length)=true->(i_0<=zi x/\zi x<zi a.length)/\(i_0<=zi x/\zi x<zi b.length)/\∃ (b_1:Note×Note),(((g_Note a x).kind=b_1.1.kind/\(g_Note a x).tx=b_1.1.tx/\q_S (g_Note a x).locks b_1.1.locks/\q_c (g_Note a x).writes b_1.1.writes)/\(g_Note b x).kind=b_1.2.kind/\(g_Note b x).tx=b_1.2.tx/\q_S (g_Note b x).locks b_1.2.locks/\q_c (g_Note b x).writes b_1.2.writes)/\((!decide (b_1.1=b_1.2))=true->false=decide (a=b))/\((!decide (b_1.1=b_1.2))=false->∃ (y:Nat),(q_e a a/\q_e b b/\wr_ ((zi x)+i_1)=zi y)/\pre y/\μ y<μ x))/\(decide (zi x<zi a.length)=false->true=decide (a=b))))=_ by kernel_rfl) ?_
 delta i_0 i_1 wr_ zi t_c q_c t_S q_S g_Note t_e q_e
 have hx:a.length<=9223372036854775807:=hl.1 (.c (sNotes a)) (by simp)
 simp only [zza,zzb,true_and,and_true,and_self,ne_eq,cI_app,cWrtO_app,cWrtS_app,cWrtO_1,cItemO_1,opr_ex,zcast,frz_nil,nil_map,Option.getD_none,Option.getD_some]
 refine ⟨fun h=>?_,fun h=>?_⟩
 ·exact (decide_eq_false fun he=>h (by rw [he])).symm
 have hlen:=len_ne h
 refine ⟨fun i=>i<=a.length/\∀ j,j<i->a.getD j dNote=b.getD j dNote,⟨by omega,fun j hj=>absurd hj (Nat.not_lt_zero _)⟩,fun i=>a.length-i,fun i hp=>?_⟩
 obtain ⟨h1,h2⟩:=hp
 refine ⟨fun hlt=>⟨by omega,hlt,by omega,by omega,fun e=>?_,fun e=>⟨i+1,wrapN (by omega),⟨by omega,below_succ h2 (by simpa using e)⟩,by simp only;omega⟩⟩,fun hge=>?_⟩
 ·have e:¬ a.getD i dNote=b.getD i dNote:=by simpa using e
  exact (decide_eq_false fun he=>e (by rw [he])).symm
 ·exact (decide_eq_true (ext_getD (d:=dNote) hlen fun j hj=>h2 j (by omega))).symm
def laws_jaNotes_c:Con Tryz.prog:=con0 [.lend,.lend] fun b:List Note×List Note=>laws_jaNotes_ok (b.1) (b.2)
theorem laws_jaDisk_ok (a:Disk) (b:Disk):FunOK Tryz.prog 39 2 [] [(0,kDiskS a),(1,kDiskS b)] (·=[(2,kB (decide (a=b)))]):=by
 refine fun_to (E:=⟨tab,ctOf [laws_jaNotes_c],17,[],[(0,[2,3]),(1,[4])],[],[],[],[]⟩) tab_ok mixed Tryz.func39 rfl Tryz.ntmps39 (rvs:=[.tmp 4]) Tryz.results39 rfl fun hl=>?_
 refine cast (show (((a.safe==b.safe)=true->∃ (b_1:y_31),(q_e a.notes b_1.1/\q_e b.notes b_1.2)/\decide (b_1.1=b_1.2)=decide (a=b))/\((a.safe==b.safe)=false->false=decide (a=b)))=_ by kernel_rfl) ?_
 delta t_e q_e y_31
 simp only [zza,zzb,true_and,and_true,and_self,ne_eq,cI_app,cWrtO_app,cWrtS_app,cWrtO_1,cItemO_1,opr_ex,zcast,frz_nil,nil_map,Option.getD_none,Option.getD_some]
 refine ⟨fun h1=>?_,fun h1=>?_⟩
 ·rw [Bool.eq_iff_iff,decide_eq_true_eq,decide_eq_true_eq];exact ⟨fun h=>Disk_ext h h1,fun h=>by rw [h]⟩
 ·exact (decide_eq_false fun he=>h1 (by rw [he])).symm
def laws_jaDisk_c:Con Tryz.prog:=con0 [.lend,.lend] fun b:Disk×Disk=>laws_jaDisk_ok (b.1) (b.2)
theorem laws_jaMsgs_ok (a:List Msg) (b:List Msg):FunOK Tryz.prog 30 2 [] [(0,k1 (sMsgs a)),(1,k1 (sMsgs b))] (·=[(2,kB (decide (a=b)))]):=by
 refine fun_to (E:=⟨tabM,ctOf [],26,[],[(0,[0,1]),(1,[0,1,10]),(2,[4]),(3,[0,1,5]),(4,[0,1,5,14]),(5,[0,1,5]),(6,[0,1,5,25]),(7,[4]),(8,[4])],[(0,⟨Nat,fun x=>[(0,(k1 (.sh 63 (typ dMsg eMsg a)))),(1,(k1 (.sh 63 (typ dMsg eMsg b)))),(5,(k1 (.n .i64 (x:Int))))]⟩)],[],[],[]⟩) tabM_ok mixed Tryz.func30 rfl Tryz.ntmps30 (rvs:=[.tmp 4]) Tryz.results30 rfl fun hl=>?_
 refine cast (show ((((zi a.length) != zi b.length)=true->false=decide (a=b))/\(((zi a.length) != zi b.length)=false->∃ (pre:Nat->Prop),∃ (μ:Nat->Nat),∃ (x0:Nat),(q_g a a/\q_g b b/\i_0=zi x0)/\pre x0/\∀ (x:Nat),pre x->(decide (zi x<zi a.length)=true->(i_0<=zi x/\zi x<zi a.length)/\(i_0<=zi x/\zi x<zi b.length)/\((if true=true then !((g_Msg a x).kind==(g_Msg b x).kind&&((g_Msg a x).to==(g_Msg b x).to&&((g_Msg a x).frm==(g_Msg b x).frm&&((g_Msg a x).tx==(g_Msg b x).tx&&((g_Msg a x).op.kind==(g_Msg b x).op.kind&&((g_Msg a x).op.who==(g_Msg b x).op.who&&((g_Msg a x).op.inn==(g_Msg b x).op.inn&&((g_Msg a x).op.code==(g_Msg b x).op.code&&((g_Msg a x).op.sec==(g_Msg b x).op.sec&&((g_Msg a x).op.fam==(g_Msg b x).op.fam&&(g_Msg a x).op.gen==(g_Msg b x).op.gen)))))))))) else (g_Msg a x).kind==(g_Msg b x).kind&&((g_Msg a x).to==(g_Msg b x).to&&((g_Msg a x).frm==(g_Msg b x).frm&&((g_Msg a x).tx==(g_Msg b x).tx&&((g_Msg a x).op.kind==(g_Msg b x).op.kind&&((g_Msg a x).op.who==(g_Msg b x).op.who&&((g_Msg a x).op.inn==(g_Msg b x).op.inn&&((g_Msg a x).op.code==(g_Msg b x).op.code&&((g_Msg a x).op.sec==(g_Msg b x).op.sec&&((g_Msg a x).op.fam==(g_Msg b x).op.fam&&(g_Msg a x).op.gen==(g_Msg b x).op.gen))))))))))=true->false=decide (a=b))/\((if true=true then !((g_Msg a x).kind==(g_Msg b x).kind&&((g_Msg a x).to==(g_Msg b x).to&&((g_Msg a x).frm==(g_Msg b x).frm&&((g_Msg a x).tx==(g_Msg b x).tx&&((g_Msg a x).op.kind==(g_Msg b x).op.kind&&((g_Msg a x).op.who==(g_Msg b x).op.who&&((g_Msg a x).op.inn==(g_Msg b x).op.inn&&((g_Msg a x).op.code==(g_Msg b x).op.code&&((g_Msg a x).op.sec==(g_Msg b x).op.sec&&((g_Msg a x).op.fam==(g_Msg b x).op.fam&&(g_Msg a x).op.gen==(g_Msg b x).op.gen)))))))))) else (g_Msg a x).kind==(g_Msg b x).kind&&((g_Msg a x).to==(g_Msg b x).to&&((g_Msg a x).frm==(g_Msg b x).frm&&((g_Msg a x).tx==(g_Msg b x).tx&&((g_Msg a x).op.kind==(g_Msg b x).op.kind&&((g_Msg a x).op.who==(g_Msg b x).op.who&&((g_Msg a x).op.inn==(g_Msg b x).op.inn&&((g_Msg a x).op.code==(g_Msg b x).op.code&&((g_Msg a x).op.sec==(g_Msg b x).op.sec&&((g_Msg a x).op.fam==(g_Msg b x).op.fam&&(g_Msg a x).op.gen==(g_Msg b x).op.gen))))))))))=false->∃ (y:Nat),(q_g a a/\q_g b b/\wr_ ((zi x)+i_1)=zi y)/\pre y/\μ y<μ x))/\(decide (zi x<zi a.length)=false->true=decide (a=b))))=_ by kernel_rfl) ?_
 delta i_0 i_1 wr_ zi t_g q_g g_Msg
 have hx:a.length<=9223372036854775807:=hl.1 (.c (sMsgs a)) (by simp)
 simp only [zza,zzb,true_and,and_true,and_self,ne_eq,cI_app,cWrtO_app,cWrtS_app,cWrtO_1,cItemO_1,opr_ex,zcast,frz_nil,nil_map,Option.getD_none,Option.getD_some]
 simp only [msgEq,if_true]
 refine ⟨fun h=>?_,fun h=>?_⟩
 ·exact (decide_eq_false fun he=>h (by rw [he])).symm
 have hlen:=len_ne h
 refine ⟨fun i=>i<=a.length/\∀ j,j<i->a.getD j dMsg=b.getD j dMsg,⟨by omega,fun j hj=>absurd hj (Nat.not_lt_zero _)⟩,fun i=>a.length-i,fun i hp=>?_⟩
 obtain ⟨h1,h2⟩:=hp
 refine ⟨fun hlt=>⟨by omega,hlt,by omega,by omega,fun e=>?_,fun e=>⟨i+1,wrapN (by omega),⟨by omega,below_succ h2 (by simpa using e)⟩,by simp only;omega⟩⟩,fun hge=>?_⟩
 ·have e:¬ a.getD i dMsg=b.getD i dMsg:=by simpa using e
  exact (decide_eq_false fun he=>e (by rw [he])).symm
 ·exact (decide_eq_true (ext_getD (d:=dMsg) hlen fun j hj=>h2 j (by omega))).symm
def laws_jaMsgs_c:Con Tryz.prog:=con0 [.lend,.lend] fun b:List Msg×List Msg=>laws_jaMsgs_ok (b.1) (b.2)
end Go.Proofs.AI
namespace Go.Proofs.AI
open Go.RowKit Go.Proofs
set_option linter.unusedVariables false
set_option linter.unusedSimpArgs false
set_option maxRecDepth 100000
theorem diskR_le {l:List Int}:∀ (k:Nat) (d:Disk) (p:Nat),rdB l p (111*k)->(diskR l k d p).2<=p+111*k
 | 0,d,p,h=>by simp [diskR]
 | k+1,d,p,h=>by
  have h1:=(noteD_le (l:=l) (p:=p) 0 (rdB_le h (by omega))).1
  have h2:=diskR_le k (addD d (noteD l p 0).1 (pickB l (noteD l p 0).2 2==0)).1 ((noteD l p 0).2+1) (rdB_le h (by omega))
  rw [diskR];omega
theorem disk0_le {l:List Int} {p:Nat} (h:rdB l p 1400):(disk0 l p).2<=p+1000:=by
 have b:=pick_lt (l:=l) (p:=p) (n:=10) (rdB_le h (by omega):rdB l p 1) (by omega)
 have:=diskR_le (l:=l) (pickB l p 10).toNat ⟨[],0⟩ (p+1) (rdB_le h (by omega))
 simp only [disk0];omega
theorem diskD_le {l:List Int} {p:Nat} (n:Int) (h:rdB l p 1400):(diskD l p n).2<=p+1200:=by
 have h1:=disk0_le h
 have h2:=odd_le l (disk0 l p).2 n
 have h3:=(noteD_le (l:=l) (p:=(oddB l (disk0 l p).2 n).2+1) 1 (rdB_le h (by omega))).1
 rw [diskD_eq]
 split
 ·simp only [diskBent]
  repeat' split
  all_goals simp only<;>omega
 ·simp only;omega
theorem frontD_le {l:List Int} {p:Nat} (n:Int) (h:rdB l p 4000):(frontD l p n).2<=p+2500:=by
 have h1:=playD_le50 (l:=l) (p:=p) (rdB_le h (by omega))
 have h2:=odd_le l (playD l p 50).2 n
 have h3:=diskD_le (l:=l) (p:=(oddB l (playD l p 50).2 n).2+1) 2 (rdB_le h (by omega))
 have h4:=op_le (l:=l) (p:=(oddB l (playD l p 50).2 n).2+2) 2 (rdB_le h (by omega))
 rw [frontD_eq]
 split
 ·simp only [frontBent]
  repeat' split
  all_goals simp only<;>omega
 ·simp only;omega
end Go.Proofs.AI
namespace Go.Proofs.AI
set_option linter.unusedVariables false
set_option linter.unusedSimpArgs false
theorem risB_iff {l:List Int}:risB l=true↔ris3 l:=by
 refine ⟨ris3_of,fun h=>?_⟩
 rcases ris3_cases h with rfl | rfl | rfl | rfl | rfl | rfl | rfl | rfl<;>decide
theorem adj_pw {l:List FTx} (h:∀ i,i+1<l.length->(l.getD i dFTx).tx<(l.getD (i+1) dFTx).tx):l.Pairwise fun a b=>a.tx<b.tx:=by
 have lt:∀ d i,i+d+1<l.length->(l.getD i dFTx).tx<(l.getD (i+d+1) dFTx).tx:=fun d=>by
  induction d with
  | zero=>intro i hi;exact h i hi
  | succ d ih=>intro i hi;have:=ih i (by omega);have:=h (i+d+1) (by omega);rw [show i+(d+1)+1=i+d+1+1 by omega];omega
 refine List.pairwise_iff_getElem.2 fun i j hi hj hij=>?_
 have:=lt (j-i-1) i (by omega)
 rw [show i+(j-i-1)+1=j by omega,getD_lt hi,getD_lt hj] at this
 exact this
theorem pw_at {l:List FTx} (h:l.Pairwise fun a b=>a.tx<b.tx) {i j:Nat} (hij:i<j) (hj:j<l.length):(l.getD i dFTx).tx<(l.getD j dFTx).tx:=by
 have:=List.pairwise_iff_getElem.1 h i j (by omega) hj hij
 rwa [getD_lt (by omega:i<l.length),getD_lt hj]
theorem froB_iff {f:Front}:froB f=true↔okF f:=by
 refine ⟨fun h=>?_,fun h=>?_⟩
 ·obtain ⟨g1,g2,g3,g4⟩:=froB_parts h
  have hp:∀ k,k<f.way.length->okT f.disk.notes (f.way.getD k dFTx):=fun k hk=>by
   have:=g4 k hk
   simp only [wayP,Bool.and_eq_true,Bool.or_eq_true,beq_iff_eq,decide_eq_true_eq] at this
   obtain ⟨⟨⟨⟨⟨q1,q2⟩,q3⟩,q4⟩,q5⟩,q6⟩:=this
   refine ⟨by simpa [inR] using q1,risB_iff.1 q3,risB_iff.1 q4,q5,fun hy=>?_⟩
   rcases q6 with q6 | q6
   ·rw [hy] at q6;cases q6
   ·exact ⟨q6.1,List.length_eq_zero_iff.1 q6.2⟩
  refine ⟨g1,g2,g3,adj_pw fun i hi=>?_,fun t ht=>?_⟩
  ·have:=g4 (i+1) hi
   simp only [wayP,Bool.and_eq_true,Bool.or_eq_true,beq_iff_eq,decide_eq_true_eq] at this
   rcases this.1.1.1.1.2 with h0 | h0
   ·omega
   ·simpa using h0
  ·obtain ⟨k,hk,rfl⟩:=List.getElem_of_mem ht
   have:=hp k hk
   rwa [getD_lt hk] at this
 ·simp only [froB,Bool.and_eq_true,decide_eq_true_eq,List.all_eq_true,Bool.or_eq_true,beq_iff_eq,List.mem_range]
  refine ⟨⟨⟨h.fd,h.wl⟩,h.kd⟩,fun k hk=>?_⟩
  have ht:=h.ok _ (getD_mem' (d:=dFTx) hk)
  simp only [wayP,Bool.and_eq_true,Bool.or_eq_true,beq_iff_eq,decide_eq_true_eq]
  refine ⟨⟨⟨⟨⟨by simpa [inR] using ht.tx,?_⟩,risB_iff.2 ht.can⟩,risB_iff.2 ht.know⟩,ht.yes⟩,?_⟩
  ·rcases Nat.eq_zero_or_pos k with h0 | h0
   ·exact .inl h0
   ·exact .inr (pw_at h.ws (by omega) hk)
  ·rcases Bool.eq_false_or_eq_true (f.way.getD k dFTx).yes with hy | hy
   ·exact .inl hy
   ·exact .inr ⟨(ht.op hy).1,by rw [(ht.op hy).2]<;>rfl⟩
theorem okF.small {f:Front} (h:okF f):smallF f:=froB_smallF (froB_iff.2 h)
theorem okF.at_eq {f:Front} (h:okF f) {k:Nat} (hk:k<f.way.length):atF f.way (f.way.getD k dFTx).tx=(k:Int):=by
 refine idxOf_hit (d:=dFTx) hk (by simp) fun j hj=>?_
 have:=pw_at h.ws hj hk
 simp only [beq_eq_false_iff_ne];omega
theorem at_none {w:List FTx} {tx:Int} (h:atF w tx<0):∀ t∈w,t.tx≠tx:=by
 intro t ht he
 simp only [atF,idxOf] at h
 split at h
 ·omega
 ·rename_i hn
  exact hn (List.any_eq_true.2 ⟨t,ht,by simp [he]⟩)
theorem pw_len {l:List FTx} {b:Int} (h:l.Pairwise fun a b=>a.tx<b.tx) (hb:∀ t∈l,0<=t.tx/\t.tx<b):l=[]∨(l.length:Int)<=b:=by
 have key:∀ i,i<l.length->(i:Int)<=(l.getD i dFTx).tx:=fun i=>by
  induction i with
  | zero=>intro hi;exact (hb _ (getD_mem' hi)).1
  | succ i ih=>intro hi;have:=ih (by omega);have:=pw_at h (show i<i+1 by omega) hi;omega
 rcases Nat.eq_zero_or_pos l.length with h0 | h0
 ·exact .inl (List.length_eq_zero_iff.1 h0)
 ·have:=key (l.length-1) (by omega)
  have:=(hb _ (getD_mem' (d:=dFTx) (show l.length-1<l.length by omega))).2
  exact .inr (by omega)
theorem begin_free {f:Front} (h:okF f) {tx:Int} (hn:¬ noBegin f tx):(∀ t∈f.way,t.tx<tx)/\ofN f.disk.notes tx=0/\f.disk.notes.length+2*f.way.length+2<=120:=by
 simp only [noBegin,not_or,not_and] at hn
 obtain ⟨n1,n2,n3,n4⟩:=hn
 have hne:=at_none (w:=f.way) (tx:=tx) (by omega)
 refine ⟨fun t ht=>?_,by omega,by omega⟩
 obtain ⟨k,hk,rfl⟩:=List.getElem_of_mem ht
 have hl:(f.way.getD (f.way.length-1) dFTx).tx<=tx:=by have:=n3 (by omega);omega
 have hne:=hne _ (getD_mem' (d:=dFTx) (show f.way.length-1<f.way.length by omega))
 rcases Nat.lt_or_ge k (f.way.length-1) with h1 | h1
 ·have:=pw_at h.ws h1 (by omega)
  rw [getD_lt hk] at this
  omega
 ·have:k=f.way.length-1:=by omega
  subst this
  rw [getD_lt hk] at hl hne
  omega
theorem begin_ok {f:Front} (h:okF f) {tx:Int} {o:Opr} (ht:0<=tx/\tx<=29) (ho:opOk o=true):okF (beginF f tx o).1:=by
 simp only [beginF]
 split
 ·exact h
 ·rename_i hn
  obtain ⟨n1,n2,n3⟩:=begin_free h hn
  refine ⟨h.fd,?_,h.kd,?_,fun t hm=>?_⟩
  ·have:=pw_len h.ws fun t hm=>⟨(h.ok t hm).tx.1,n1 t hm⟩
   simp only [List.length_append,List.length_singleton]
   rcases this with e | e
   ·rw [e];simp
   ·omega
  ·refine List.pairwise_append.2 ⟨h.ws,by simp,fun a ha b hb=>?_⟩
   simp at hb;subst hb
   exact n1 a ha
  ·rcases List.mem_append.1 hm with hm | hm
   ·exact h.ok t hm
   ·simp at hm;subst hm
    exact ⟨ht,ris3_nil,ris3_nil,by simp [n2],fun _=>⟨ho,rfl⟩⟩
end Go.Proofs.AI
namespace Go.Proofs.AI
open Go.RowKit Go.Proofs
set_option linter.unusedVariables false
set_option linter.unusedSimpArgs false
set_option maxRecDepth 100000
theorem impl_FroState_copied_ok (f:Front) (hpre:smallF f):FunOK Tryz.prog 69 1 [] [(0,kFrontS f)] (·=[(1,kFrontO f)]):=by
 refine fun_to (E:=⟨tab,ctOf [impl_LogDisk_copied_c,CloneI_c],33,[],[(0,[1,2,3,32]),(1,[1,2,3,32]),(2,[1,2,3,10,11,12,13,32]),(3,[1,2,3,10,11,12,13,14,32]),(4,[1,2,3,5,10,11,12,13,32]),(5,[1,2,3,5,10,11,12,13,32]),(6,[1,2,3,10,11,12,13,32]),(7,[1,2,3,10,11,12,13,32]),(8,[2,3,32])],[(0,⟨List FTx×Nat,fun x=>[(1,⟨.box,[.c (.sh 72 (typ dNote eNoteS f.disk.notes)),.c (.n .i64 f.disk.safe),.c (.sh 36 (typ dFTx eFTxS f.way))],[]⟩),(2,⟨.box,[.c (.ow 72 nilR),.c (.n .i64 ((0:Int))),.c (.ow 36 nilR)],[]⟩),(3,⟨.box,[.c (.ow 72 (typ dNote eNoteO f.disk.notes)),.c (.n .i64 f.disk.safe),.c (oFTxs (x.1))],[]⟩),(10,⟨.one,[.pr 1 2 0],[]⟩),(11,(k1 (.sh 36 (typ dFTx eFTxS f.way)))),(12,(k1 (.n .i64 ((↑f.way.length:Int))))),(13,(k1 (.n .i64 (x.2:Int))))]⟩)],[(6,[(1000002,[])])],[],[]⟩) tab_ok mixed Tryz.func69 rfl Tryz.ntmps69 (rvs:=[.cell 2 28]) Tryz.results69 rfl fun hl=>?_
 refine cast (show (let k_4:Prop:=f.disk.safe=f.disk.safe;let k_3:Prop:=n_1=n_1/\n_2=n_2/\true=true;let k_2:Prop:=cnRs nilR=cnRs nilR/\i_0=i_0/\cnRs nilR=cnRs nilR;let k_1:Prop:=q_e f.disk.notes f.disk.notes/\k_4/\q_h f.way f.way;∃ (b:Disk),(q_e f.disk.notes b.notes/\f.disk.safe=b.safe)/\smallD b/\(∃ (pre:List FTx×Nat->Prop),∃ (μ:List FTx×Nat->Nat),∃ (x0:List FTx×Nat),(k_1/\k_2/\(q_f b.notes f.disk.notes/\b.safe=f.disk.safe/\cnRs nilR=t_j x0.1)/\k_3/\q_h f.way f.way/\zi f.way.length=zi f.way.length/\i_0=zi x0.2)/\pre x0/\(∀ (x:List FTx×Nat),pre x->(decide (zi x.2<zi f.way.length)=true->(i_0<=zi x.2/\zi x.2<zi f.way.length)/\(∃ (b:List Int),q_I (g_FTx f.way x.2).can b/\b.length<=n_1000/\(∃ (b_1:List Int),q_I (g_FTx f.way x.2).know b_1/\b_1.length<=n_1000/\(x.1.length+n_1)*n_120<=n_140737488355328/\(∃ (y:List FTx×Nat),(k_1/\k_2/\(q_f f.disk.notes f.disk.notes/\k_4/\cnRs (appR (typ dFTx eFTxO x.1) (raw [[cn_ (g_FTx f.way x.2).tx,cn_ (g_FTx f.way x.2).op.kind,cn_ (g_FTx f.way x.2).op.who,cn_ (g_FTx f.way x.2).op.inn,cn_ (g_FTx f.way x.2).op.code,cn_ (g_FTx f.way x.2).op.sec,cn_ (g_FTx f.way x.2).op.fam,cn_ (g_FTx f.way x.2).op.gen,CV.b (g_FTx f.way x.2).yes,CV.ow n_3 (typ i_0 eI b),CV.ow n_3 (typ i_0 eI b_1)]]))=t_j y.1)/\k_3/\q_h f.way f.way/\zi f.way.length=zi f.way.length/\wr_ ((zi x.2)+i_1)=zi y.2)/\pre y/\μ y<μ x))))/\(decide (zi x.2<zi f.way.length)=false->q_f f.disk.notes f.disk.notes/\k_4/\q_j x.1 f.way))))=_ by kernel_rfl) ?_
 delta i_0 i_1 wr_ zi t_I q_I n_140737488355328 n_1 n_3 n_1000 cn_ n_2 t_e q_e t_f q_f n_120 g_FTx t_h q_h t_j q_j
 obtain ⟨p1,p2,p3⟩:=hpre
 simp only [zza,zzb,true_and,and_true,and_self,ne_eq,cI_app,cWrtO_app,cWrtS_app,cWrtO_1,cItemO_1,opr_ex,zcast,frz_nil,nil_map,Option.getD_none,Option.getD_some]
 refine ⟨p1,fun x=>x.2<=f.way.length/\x.1=f.way.take x.2,⟨by omega,rfl⟩,fun x=>f.way.length-x.2,fun a i hp=>?_⟩
 obtain ⟨h1,h2⟩:=hp
 simp only at h1 h2
 subst h2
 refine ⟨fun hlt=>?_,fun hge=>?_⟩
 ·have hm:f.way.getD i dFTx∈f.way:=by rw [getD_lt (by omega)];exact List.getElem_mem _
  refine ⟨by omega,hlt,(p3 _ hm).1,(p3 _ hm).2,by rw [List.length_take];omega,f.way.take (i+1),?_,i+1,wrapN (by omega),⟨by simp only;omega,rfl⟩,by simp only;omega⟩
  rw [take_succ (d:=dFTx) (by omega)]
  simp
 ·have:i=f.way.length:=by omega
  subst this
  simp
def impl_FroState_copied_c:Con Tryz.prog:=conP [.lend] fun (b:Front) h=>impl_FroState_copied_ok b h
theorem TxIs_ok (t:FTx) (tx:Int):FunOK Tryz.prog 160 2 [] [(0,kFTxS t),(1,k1 (.rp [.n .i64 tx]))] (·=[(2,kB (t.tx==tx))]):=by
 refine fun_to (E:=⟨tab,ctOf [],8,[],[(0,[1,2]),(1,[3])],[],[],[],[]⟩) tab_ok mixed Tryz.func160 rfl Tryz.ntmps160 (rvs:=[.tmp 3]) Tryz.results160 rfl fun hl=>?_
 refine cast (show ((t.tx==tx)=(t.tx==tx))=_ by kernel_rfl) ?_
 simp only [zza,zzb,true_and,and_true,and_self,ne_eq,cI_app,cWrtO_app,cWrtS_app,cWrtO_1,cItemO_1,opr_ex,zcast,frz_nil,nil_map,Option.getD_none,Option.getD_some]
 done
def TxIs_c:Con Tryz.prog:=con0 [.lend] fun b:FTx×Int=>TxIs_ok (b.1) (b.2)
theorem IndexTx_ok (xs:List FTx) (tx:Int):FunOK Tryz.prog 159 2 [] [(0,k1 (sFTxs xs)),(1,k1 (.fn 160 [.rp [.n .i64 tx]]))] (·=[(2,kI (atF xs tx))]):=by
 refine fun_to (E:=⟨tab,ctOf [TxIs_c],19,[],[(0,[0,1]),(1,[0,1,7,8]),(2,[0,1,7,8,9]),(3,[0,1,5,7,8]),(4,[0,1,5,7,8,16]),(5,[4]),(6,[0,1,7,8]),(7,[4])],[(0,⟨Nat,fun x=>[(0,(k1 (.sh 36 (typ dFTx eFTxS xs)))),(1,(k1 (.fn 160 ([CV.rp [CV.n .i64 tx]])))),(7,(k1 (.n .i64 ((↑xs.length:Int))))),(8,(k1 (.n .i64 (x:Int))))]⟩)],[],[],[]⟩) tab_ok mixed Tryz.func159 rfl Tryz.ntmps159 (rvs:=[.tmp 4]) Tryz.results159 rfl fun hl=>?_
 refine cast (show (let k_1:Prop:=cnR [CV.rp [cn_ tx]]=cnR [CV.rp [cn_ tx]];∃ (pre:Nat->Prop),∃ (μ:Nat->Nat),∃ (x0:Nat),(q_h xs xs/\k_1/\zi xs.length=zi xs.length/\i_0=zi x0)/\pre x0/\(∀ (x:Nat),pre x->(decide (zi x<zi xs.length)=true->(i_0<=zi x/\zi x<zi xs.length)/\(∃ (b:FTx×Int),(((g_FTx xs x).tx=b.1.tx/\(g_FTx xs x).op.kind=b.1.op.kind/\(g_FTx xs x).op.who=b.1.op.who/\(g_FTx xs x).op.inn=b.1.op.inn/\(g_FTx xs x).op.code=b.1.op.code/\(g_FTx xs x).op.sec=b.1.op.sec/\(g_FTx xs x).op.fam=b.1.op.fam/\(g_FTx xs x).op.gen=b.1.op.gen/\(g_FTx xs x).yes=b.1.yes/\q_I (g_FTx xs x).can b.1.can/\q_I (g_FTx xs x).know b.1.know)/\cnR [cn_ tx]=cnR [cn_ b.2])/\((b.1.tx==b.2)=true->zi x=atF xs tx)/\((b.1.tx==b.2)=false->∃ (y:Nat),(q_h xs xs/\k_1/\zi xs.length=zi xs.length/\wr_ ((zi x)+i_1)=zi y)/\pre y/\μ y<μ x)))/\(decide (zi x<zi xs.length)=false->(-1:Int)=atF xs tx)))=_ by kernel_rfl) ?_
 delta i_0 i_1 wr_ zi t_I q_I cn_ g_FTx t_h q_h
 have hx:xs.length<=9223372036854775807:=hl.1 _ (List.mem_singleton.2 rfl)
 simp only [zza,zzb,true_and,and_true,and_self,ne_eq,cI_app,cWrtO_app,cWrtS_app,cWrtO_1,cItemO_1,opr_ex,zcast,frz_nil,nil_map,Option.getD_none,Option.getD_some]
 refine ⟨fun i=>i<=xs.length/\∀ j,j<i->(fun t:FTx=>t.tx==tx) (xs.getD j dFTx)=false,⟨by simp,fun j hj=>absurd hj (Nat.not_lt_zero _)⟩,fun i=>xs.length-i,fun i hi=>?_⟩
 obtain ⟨h1,h2⟩:=hi
 refine ⟨fun hlt=>⟨by omega,by omega,tx,rfl,fun hp=>?_,fun hp=>⟨i+1,wrapN (by omega),⟨by omega,below_succ h2 (by simpa using hp)⟩,by simp only;omega⟩⟩,fun hge=>?_⟩
 ·exact (idx_hit (p:=fun t:FTx=>t.tx==tx) (d:=dFTx) (by omega) (by simpa using hp) h2).symm
 ·exact (idx_miss (p:=fun t:FTx=>t.tx==tx) (d:=dFTx) fun j hj=>h2 j (by omega)).symm
def IndexTx_c:Con Tryz.prog:=con0 [.lend,.lend] fun b:List FTx×Int=>IndexTx_ok (b.1) (b.2)
theorem impl_FroState_find_ok (f:Front) (tx:Int):FunOK Tryz.prog 118 2 [0] [(0,⟨.box,cKFrontO f,[]⟩),(1,kI tx)] (·=[(2,kI (atF f.way tx)),(0,⟨.box,cKFrontO f,[]⟩)]):=by
 refine fun_to (E:=⟨tab,ctOf [],11,[0],[(0,[0,3]),(1,[0,4])],[],[],[],[(1,[IndexTx_c])]⟩) tab_ok mixed Tryz.func118 rfl Tryz.ntmps118 (rvs:=[.tmp 4]) Tryz.results118 rfl fun hl=>?_
 refine cast (show (True/\∃ (b:List FTx×Int),(cnRs (frozenRs (typ dFTx eFTxO f.way))=t_h b.1/\cnR [CV.rp [cn_ tx]]=cnR [CV.rp [cn_ b.2]])/\atF b.1 b.2=atF f.way tx/\q_f f.disk.notes f.disk.notes/\f.disk.safe=f.disk.safe/\q_j f.way f.way)=_ by kernel_rfl) ?_
 delta cn_ t_f q_f t_h t_j q_j
 simp only [zza,zzb,true_and,and_true,and_self,ne_eq,cI_app,cWrtO_app,cWrtS_app,cWrtO_1,cItemO_1,opr_ex,zcast,frz_nil,nil_map,Option.getD_none,Option.getD_some]
 exact ⟨tx,rfl,rfl⟩
def impl_FroState_find_c:Con Tryz.prog:=con0 [.ptr,.lend] fun b:Front×Int=>impl_FroState_find_ok (b.1) (b.2)
def toldF (kind tx:Int) (o:Opr) (ps:List Int):List Msg:=ps.map fun p=>⟨kind,p,0,tx,o⟩
theorem told_send {k tx:Int} {o:Opr} {ps:List Int} (h:k=1∨o=dOpr):toldF k tx o ps=sendF k tx o ps:=by
 simp only [toldF,sendF]
 rcases h with h | h
 ·simp only [h,if_true]
 ·simp only [h,ite_self]
theorem impl_told_ok (kind:Int) (tx:Int) (o:Opr) (ps:List Int) (hpre:ps.length<=1000):FunOK Tryz.prog 79 4 [] [(0,kI kind),(1,kI tx),(2,kOp o),(3,k1 (sI ps))] (·=[(4,k1 (oMsgs (toldF kind tx o ps)))]):=by
 refine fun_to (E:=⟨tab,ctOf [],28,[],[(0,[0,1,3,6,9,18,23,24,25]),(1,[0,1,3,6,9,18,23,24,25]),(2,[0,1,3,6,9,12,13,14,18,23,24,25]),(3,[0,1,3,6,9,12,13,14,15,18,23,24,25]),(4,[0,1,3,6,9,11,12,13,14,18,23,24,25]),(5,[0,1,3,6,9,12,13,14,18,23,24,25]),(6,[0,1,3,6,9,12,13,14,18,23,24,25]),(7,[8,9,18,23,24,25,27])],[(0,⟨List Msg×Nat,fun x=>[(0,(k1 (.n .i64 kind))),(1,(k1 (.n .i64 tx))),(3,(k1 (.sh 3 (typ (0:Int) eI ps)))),(6,⟨.box,[.c (.n .i64 o.kind),.c (.n .i64 o.who),.c (.n .i64 o.inn),.c (.n .i64 o.code),.c (.n .i64 o.sec),.c (.n .i64 o.fam),.c (.n .i64 o.gen)],[]⟩),(9,(k1 (oMsgs (x.1)))),(12,(k1 (.sh 3 (typ (0:Int) eI ps)))),(13,(k1 (.n .i64 ((↑ps.length:Int))))),(14,(k1 (.n .i64 (x.2:Int))))]⟩)],[(5,[(1000000,[])]),(7,[(1000000,[])])],[],[]⟩) tab_ok mixed Tryz.func79 rfl Tryz.ntmps79 (rvs:=[.tmp 8]) Tryz.results79 rfl fun hl=>?_
 refine cast (show (let k_1:Prop:=o.kind=o.kind/\o.who=o.who/\o.inn=o.inn/\o.code=o.code/\o.sec=o.sec/\o.fam=o.fam/\o.gen=o.gen;∃ (pre:List Msg×Nat->Prop),∃ (μ:List Msg×Nat->Nat),∃ (x0:List Msg×Nat),(kind=kind/\tx=tx/\q_I ps ps/\k_1/\x0.1.length=n_0/\q_I ps ps/\zi ps.length=zi ps.length/\i_0=zi x0.2)/\pre x0/\(∀ (x:List Msg×Nat),pre x->(decide (zi x.2<zi ps.length)=true->(i_0<=zi x.2/\zi x.2<zi ps.length)/\(x.1.length+n_1)*n_88<=n_140737488355328/\(∃ (y:List Msg×Nat),(kind=kind/\tx=tx/\q_I ps ps/\k_1/\cnRs (appR (typ dMsg eMsg x.1) (raw [[cn_ kind,cn_ (g_Int ps x.2),cn_ i_0,cn_ tx,cn_ o.kind,cn_ o.who,cn_ o.inn,cn_ o.code,cn_ o.sec,cn_ o.fam,cn_ o.gen]]))=t_g y.1/\q_I ps ps/\zi ps.length=zi ps.length/\wr_ ((zi x.2)+i_1)=zi y.2)/\pre y/\μ y<μ x))/\(decide (zi x.2<zi ps.length)=false->q_g x.1 (toldF kind tx o ps))))=_ by kernel_rfl) ?_
 delta i_0 i_1 wr_ g_Int zi t_I q_I n_0 n_140737488355328 n_1 cn_ t_g q_g n_88
 simp only [zza,zzb,true_and,and_true,and_self,ne_eq,cI_app,cWrtO_app,cWrtS_app,cWrtO_1,cItemO_1,opr_ex,zcast,frz_nil,nil_map,Option.getD_none,Option.getD_some]
 refine ⟨fun x=>x.2<=ps.length/\x.1=toldF kind tx o (ps.take x.2),fun x=>ps.length-x.2,[],rfl,⟨by omega,rfl⟩,fun a i hp=>?_⟩
 obtain ⟨h1,h2⟩:=hp
 simp only at h1 h2
 subst h2
 refine ⟨fun hlt=>⟨by omega,hlt,by simp only [toldF,List.length_map,List.length_take];omega,toldF kind tx o (ps.take (i+1)),?_,i+1,wrapN (by omega),⟨by simp only;omega,rfl⟩,by simp only;omega⟩,fun hge=>?_⟩
 ·rw [take_succ (d:=0) (by omega)]
  simp [toldF]
 ·have:i=ps.length:=by omega
  rw [this,List.take_length]
def impl_told_c:Con Tryz.prog:=conP [.lend,.lend,.lend,.lend] fun (b:Int×Int×Opr×List Int) h=>impl_told_ok (b.1) (b.2.1) (b.2.2.1) (b.2.2.2) h
theorem impl_FroState_begin_ok (f:Front) (tx:Int) (o:Opr) (hpre:smallF f):FunOK Tryz.prog 96 3 [0] [(0,⟨.box,cKFrontO f,[]⟩),(1,kI tx),(2,kOp o)] (·=[(3,⟨.tup [(false,1),(false,1)],[.c (oMsgs (beginF f tx o).2.1),.c (.b (beginF f tx o).2.2)],[]⟩),(0,⟨.box,cKFrontO (beginF f tx o).1,[]⟩)]):=by
 refine fun_to (E:=⟨tab,ctOf [impl_OpPlaces_c,impl_of_c,impl_told_c,impl_FroState_find_c],78,[0],[(0,[0,1,5,77]),(1,[0,1,5,8,77]),(2,[0,1,5,60,77]),(3,[0,6,7,77]),(4,[0,1,5]),(5,[0,6,7,77])],[],[],[],[]⟩) tab_ok mixed Tryz.func96 rfl Tryz.ntmps96 (rvs:=[.tmp 6,.tmp 7]) Tryz.results96 rfl fun hl=>?_
 refine cast (show (let k_2:Prop:=(beginF f tx o).2.1.length=n_0/\false=(beginF f tx o).2.2;let k_1:Prop:=((∀ (k:Nat),True/\True/\True/\True/\True/\True/\True/\True/\True/\True/\True/\True)/\True)/\True;∃ (b:Front×Int),let k_6:Prop:=b.1.disk.safe=(beginF f tx o).1.disk.safe;let k_5:Prop:=q_f b.1.disk.notes (beginF f tx o).1.disk.notes;let k_4:Prop:=k_2/\k_5/\k_6/\q_j b.1.way (beginF f tx o).1.way;let k_3:Prop:=(decide (wr_ (wr_ ((zi b.1.disk.notes.length)+wr_ (i_2*(zi b.1.way.length)))+i_2)>i_120)=true->k_4)/\(decide (wr_ (wr_ ((zi b.1.disk.notes.length)+wr_ (i_2*(zi b.1.way.length)))+i_2)>i_120)=false->(b.1.way.length+n_1)*n_120<=n_140737488355328/\(∃ (b_2:Opr),(o.kind=b_2.kind/\o.who=b_2.who/\o.inn=b_2.inn/\o.code=b_2.code/\o.sec=b_2.sec/\o.fam=b_2.fam/\o.gen=b_2.gen)/\(∃ (b_3:y_20),(i_1=b_3.1/\tx=b_3.2.1/\(o.kind=b_3.2.2.1.kind/\o.who=b_3.2.2.1.who/\o.inn=b_3.2.2.1.inn/\o.code=b_3.2.2.1.code/\o.sec=b_3.2.2.1.sec/\o.fam=b_3.2.2.1.fam/\o.gen=b_3.2.2.1.gen)/\cnRs (frozenRs (typ i_0 eI (placesL b_2)))=t_I b_3.2.2.2)/\b_3.2.2.2.length<=n_1000/\k_1/\(q_g (toldF b_3.1 b_3.2.1 b_3.2.2.1 b_3.2.2.2) (beginF f tx o).2.1/\true=(beginF f tx o).2.2)/\k_5/\k_6/\cnRs (appR (typ dFTx eFTxO b.1.way) (raw [[cn_ tx,cn_ o.kind,cn_ o.who,cn_ o.inn,cn_ o.code,cn_ o.sec,cn_ o.fam,cn_ o.gen,CV.b false,CV.ow n_3 nilR,CV.ow n_3 nilR]]))=t_j (beginF f tx o).1.way)));((q_f f.disk.notes b.1.disk.notes/\f.disk.safe=b.1.disk.safe/\q_j f.way b.1.way)/\tx=b.2)/\(decide (atF b.1.way b.2≥i_0)=false->∃ (b_1:Disk×Int),((cnRs (frozenRs (typ dNote eNoteO b.1.disk.notes))=t_e b_1.1.notes/\b.1.disk.safe=b_1.1.safe)/\tx=b_1.2)/\((ofN b_1.1.notes b_1.2 != i_0)=false->(decide (wr_ ((zi f.way.length)-i_1)≥i_0)=true->(i_0<=wr_ ((zi f.way.length)-i_1)/\wr_ ((zi f.way.length)-i_1)<zi b.1.way.length)/\(wr_ ((zi f.way.length)-i_1)).toNat<b.1.way.length/\(decide ((b.1.way.getD (wr_ ((zi f.way.length)-i_1)).toNat dFTx).tx>tx)=false->k_3)/\(decide ((b.1.way.getD (wr_ ((zi f.way.length)-i_1)).toNat dFTx).tx>tx)=true->k_4))/\(decide (wr_ ((zi f.way.length)-i_1)≥i_0)=false->k_3))/\((ofN b_1.1.notes b_1.2 != i_0)=true->k_4))/\(decide (atF b.1.way b.2≥i_0)=true->k_4))=_ by kernel_rfl) ?_
 delta i_0 i_1 i_2 wr_ zi t_I n_0 n_140737488355328 n_1 n_3 n_1000 cn_ t_e i_120 t_f q_f t_g q_g n_120 y_20 t_j q_j
 simp only [zza,zzb,true_and,and_true,and_self,ne_eq,cI_app,cWrtO_app,cWrtS_app,cWrtO_1,cItemO_1,opr_ex,zcast,frz_nil,nil_map,Option.getD_none,Option.getD_some]
 obtain ⟨⟨q1,_⟩,q2,_⟩:=hpre
 have w1:IntKind.i64.wrap ((f.way.length:Int)-1)=(f.way.length:Int)-1:=IntWalk.i64_in _ (by omega)
 have w2:IntKind.i64.wrap (IntKind.i64.wrap ((f.disk.notes.length:Int)+IntKind.i64.wrap (2*(f.way.length:Int)))+2)=(f.disk.notes.length:Int)+2*f.way.length+2:=by
  rw [IntWalk.i64_in (2*(f.way.length:Int)) (by omega),IntWalk.i64_in ((f.disk.notes.length:Int)+2*(f.way.length:Int)) (by omega),IntWalk.i64_in _ (by omega)]
 rw [w1,w2,show ((f.way.length:Int)-1).toNat=f.way.length-1 by omega]
 have no:noBegin f tx->(beginF f tx o).2.1.length=0/\false=(beginF f tx o).2.2/\f.disk.notes=(beginF f tx o).1.disk.notes/\f.disk.safe=(beginF f tx o).1.disk.safe/\f.way=(beginF f tx o).1.way:=fun h=>by
  rw [beginF,if_pos h];exact ⟨rfl,rfl,rfl,rfl,rfl⟩
 have yes:=fun h:¬ noBegin f tx=>show (f.way.length+1)*120<=140737488355328/\(placesL o).length<=1000/\toldF 1 tx o (placesL o)=(beginF f tx o).2.1/\true=(beginF f tx o).2.2/\f.disk.notes=(beginF f tx o).1.disk.notes/\f.disk.safe=(beginF f tx o).1.disk.safe /\
   cnRs (appR (typ dFTx eFTxO f.way) (raw [[CV.n .i64 tx,CV.n .i64 o.kind,CV.n .i64 o.who,CV.n .i64 o.inn,CV.n .i64 o.code,CV.n .i64 o.sec,CV.n .i64 o.fam,CV.n .i64 o.gen,CV.b false,CV.ow 3 nilR,CV.ow 3 nilR]]))=List.map nFTxO (beginF f tx o).1.way by
  have:=places_len3 o
  rw [beginF,if_neg h]
  refine ⟨by omega,by omega,told_send (.inl rfl),rfl,rfl,rfl,?_⟩
  simp
 refine ⟨fun h1=>⟨fun h2=>?_,fun h2=>no (.inr (.inl h2))⟩,fun h1=>no (.inl h1)⟩
 have h2:ofN f.disk.notes tx=0:=by simpa using h2
 refine ⟨fun h3=>⟨by omega,by omega,by omega,fun h4=>⟨fun h5=>no (.inr (.inr (.inr (by omega)))),fun h5=>yes ?_⟩,fun h4=>no (.inr (.inr (.inl ⟨by omega,h4⟩)))⟩,fun h3=>⟨fun h5=>no (.inr (.inr (.inr (by omega)))),fun h5=>yes ?_⟩⟩
 ·rintro (h | h | h | h)
  ·exact h1 h
  ·exact h h2
  ·exact h4 h.2
  ·omega
 ·rintro (h | h | h | h)
  ·exact h1 h
  ·exact h h2
  ·omega
  ·omega
def impl_FroState_begin_c:Con Tryz.prog:=conP [.ptr,.lend,.lend] fun (b:Front×Int×Opr) h=>impl_FroState_begin_ok (b.1) (b.2.1) (b.2.2) h
def begB (f:Front) (tx:Int) (o:Opr):Front×List Msg×Bool:=if (froB f&&inR tx 0 29&&opOk o)=true then beginF f tx o else (⟨⟨[],0⟩,[]⟩,[],false)
theorem impl_FroBegin_ok (f:Front) (tx:Int) (o:Opr):FunOK Tryz.prog 42 3 [] [(0,kFrontS f),(1,kI tx),(2,kOp o)] (·=[(3,⟨.tup [(true,3),(false,1),(false,1)],[.c (oNotes (begB f tx o).1.disk.notes),.c (.n .i64 (begB f tx o).1.disk.safe),.c (oFTxs (begB f tx o).1.way),.c (oMsgs (begB f tx o).2.1),.c (.b (begB f tx o).2.2)],[]⟩)]):=by
 refine fun_to (E:=⟨tab,ctOf [impl_FroOk_c,impl_isTx_c,impl_OpOk_c,impl_FroState_copied_c,impl_FroState_begin_c],37,[],[(0,[1,3,5,6,9,10,25,28,31,32,34,35]),(1,[1,3,5,6,9,10,24,25,28,31,32,34,35]),(2,[6,7,8,9,10,25,28,31,32,34,35]),(3,[1,5,6,9,25,34]),(4,[6,9,10,11,25,28,31,32,34]),(5,[6,7,8,9,10,25,28,31,32,34,35])],[],[(5,[(1000001,[])])],[],[]⟩) tab_ok mixed Tryz.func42 rfl Tryz.ntmps42 (rvs:=[.cell 6 28,.tmp 7,.tmp 8]) Tryz.results42 rfl fun hl=>?_
 refine cast (show (let k_1:Prop:=cnRs nilR=t_f (begB f tx o).1.disk.notes/\i_0=(begB f tx o).1.disk.safe/\cnRs nilR=t_j (begB f tx o).1.way/\(begB f tx o).2.1.length=n_0/\false=(begB f tx o).2.2;∃ (b:Front),(q_e f.disk.notes b.disk.notes/\f.disk.safe=b.disk.safe/\q_h f.way b.way)/\((!froB b)=false->∃ (b:Opr),(o.kind=b.kind/\o.who=b.who/\o.inn=b.inn/\o.code=b.code/\o.sec=b.sec/\o.fam=b.fam/\o.gen=b.gen)/\((!opOk b)=false->∃ (b:Int),tx=b/\((!inR b i_0 i_29)=true->k_1)/\((!inR b i_0 i_29)=false->∃ (b:Front),(q_e f.disk.notes b.disk.notes/\f.disk.safe=b.disk.safe/\q_h f.way b.way)/\smallF b/\(∃ (b_1:Front×Int×Opr),((q_f b.disk.notes b_1.1.disk.notes/\b.disk.safe=b_1.1.disk.safe/\q_j b.way b_1.1.way)/\tx=b_1.2.1/\o.kind=b_1.2.2.kind/\o.who=b_1.2.2.who/\o.inn=b_1.2.2.inn/\o.code=b_1.2.2.code/\o.sec=b_1.2.2.sec/\o.fam=b_1.2.2.fam/\o.gen=b_1.2.2.gen)/\smallF b_1.1/\q_f (beginF b_1.1 b_1.2.1 b_1.2.2).1.disk.notes (begB f tx o).1.disk.notes/\(beginF b_1.1 b_1.2.1 b_1.2.2).1.disk.safe=(begB f tx o).1.disk.safe/\q_j (beginF b_1.1 b_1.2.1 b_1.2.2).1.way (begB f tx o).1.way/\q_g (beginF b_1.1 b_1.2.1 b_1.2.2).2.1 (begB f tx o).2.1/\(beginF b_1.1 b_1.2.1 b_1.2.2).2.2=(begB f tx o).2.2)))/\((!opOk b)=true->k_1))/\((!froB b)=true->k_1))=_ by kernel_rfl) ?_
 delta i_0 n_0 i_29 t_e q_e t_f q_f t_g q_g t_h q_h t_j q_j
 simp only [zza,zzb,true_and,and_true,and_self,ne_eq,cI_app,cWrtO_app,cWrtS_app,cWrtO_1,cItemO_1,opr_ex,zcast,frz_nil,nil_map,Option.getD_none,Option.getD_some]
 have no:(froB f&&inR tx 0 29&&opOk o)=false->[]=(begB f tx o).1.disk.notes/\0=(begB f tx o).1.disk.safe/\[]=(begB f tx o).1.way/\(begB f tx o).2.1.length=0/\false=(begB f tx o).2.2:=fun h=>by
  simp only [begB,h];exact ⟨rfl,rfl,rfl,rfl,rfl⟩
 refine ⟨fun h1=>⟨fun h2=>⟨fun h3=>?_,fun h3=>?_⟩,fun h2=>?_⟩,fun h1=>?_⟩
 ·exact no (by simp at h3;simp [h3])
 ·simp only [Bool.not_eq_false'] at h1 h2 h3
  have e:begB f tx o=beginF f tx o:=by simp only [begB,h1,h2,h3,Bool.and_self,if_true]
  rw [e]
  exact ⟨(froB_iff.1 h1).small,(froB_iff.1 h1).small,rfl,rfl,rfl,rfl,rfl⟩
 ·exact no (by simp at h2;simp [h2])
 ·exact no (by simp at h1;simp [h1])
def impl_FroBegin_c:Con Tryz.prog:=con0 [.lend,.lend,.lend] fun b:Front×Int×Opr=>impl_FroBegin_ok (b.1) (b.2.1) (b.2.2)
end Go.Proofs.AI
namespace Go.Proofs.AI
open Go.RowKit Go.Proofs
set_option linter.unusedVariables false
set_option linter.unusedSimpArgs false
set_option maxRecDepth 100000
theorem spec_FroBegin_ok (f:Front) (tx:Int) (o:Opr):FunOK Tryz.prog 43 3 [] [(0,kFrontS f),(1,kI tx),(2,kOp o)] (·=[(3,⟨.tup [(true,3),(false,1),(false,1)],[.c (oNotes (begB f tx o).1.disk.notes),.c (.n .i64 (begB f tx o).1.disk.safe),.c (oFTxs (begB f tx o).1.way),.c (oMsgs (begB f tx o).2.1),.c (.b (begB f tx o).2.2)],[]⟩)]):=by
 refine fun_to (E:=⟨tab,ctOf [spec_FroOk_c,spec_OpOk_c,spec_l1In_c,spec_l6Copy_c,spec_l6Begin_c],40,[],[(0,[1,3,5,6,10,25,26,27,32,34,37,38]),(1,[1,3,5,6,10,24,25,26,27,32,34,37,38]),(2,[6,7,8,10,25,26,27,32,34,37,38]),(3,[6,9,10,11,25,26,27,32,34,37]),(4,[6,7,8,10,25,26,27,32,34,37,38])],[],[(3,[(4,[29]),(2000004,[4])]),(4,[(1000002,[])])],[],[]⟩) tab_ok mixed Tryz.func43 rfl Tryz.ntmps43 (rvs:=[.cell 6 28,.tmp 7,.tmp 8]) Tryz.results43 rfl fun hl=>?_
 refine cast (show (let k_2:Prop:=∀ (k:Nat),True/\True;let k_1:Prop:=cnRs nilR=t_f (begB f tx o).1.disk.notes/\i_0=(begB f tx o).1.disk.safe/\cnRs nilR=t_j (begB f tx o).1.way/\cnRs (raw [])=t_g (begB f tx o).2.1/\false=(begB f tx o).2.2;∃ (b:Front),(q_e f.disk.notes b.disk.notes/\f.disk.safe=b.disk.safe/\q_h f.way b.way)/\((!froB b)=false->∃ (b:Int×Int×Int),(tx=b.1/\i_0=b.2.1/\i_29=b.2.2)/\((!inR b.1 b.2.1 b.2.2)=false->∃ (b:Opr),(o.kind=b.kind/\o.who=b.who/\o.inn=b.inn/\o.code=b.code/\o.sec=b.sec/\o.fam=b.fam/\o.gen=b.gen)/\((!opOk b)=true->k_1)/\((!opOk b)=false->∃ (b:Front),(q_e f.disk.notes b.disk.notes/\f.disk.safe=b.disk.safe/\q_h f.way b.way)/\smallF b/\(∃ (b_1:Front×Int×Opr),((cnRs (frozenRs (typ dNote eNoteO b.disk.notes))=t_e b_1.1.disk.notes/\b.disk.safe=b_1.1.disk.safe/\cnRs (frozenRs (typ dFTx eFTxO b.way))=t_h b_1.1.way)/\tx=b_1.2.1/\o.kind=b_1.2.2.kind/\o.who=b_1.2.2.who/\o.inn=b_1.2.2.inn/\o.code=b_1.2.2.code/\o.sec=b_1.2.2.sec/\o.fam=b_1.2.2.fam/\o.gen=b_1.2.2.gen)/\(b_1.1.disk.notes.length<=n_1000/\b_1.1.way.length<=n_1000)/\(∃ (b:Front),(q_e (beginF b_1.1 b_1.2.1 b_1.2.2).1.disk.notes b.disk.notes/\(beginF b_1.1 b_1.2.1 b_1.2.2).1.disk.safe=b.disk.safe/\cnRs (frozenRs (typ dFTx eFTxS (beginF b_1.1 b_1.2.1 b_1.2.2).1.way))=t_h b.way)/\smallF b/\(((∀ (k:Nat),True/\True/\k_2/\(∀ (k:Nat),True/\True/\k_2/\True)/\True)/\True/\(∀ (k:Nat),True/\True/\True/\True/\True/\True/\True/\True/\True/\k_2/\k_2/\True)/\True)/\True)/\q_f b.disk.notes (begB f tx o).1.disk.notes/\b.disk.safe=(begB f tx o).1.disk.safe/\q_j b.way (begB f tx o).1.way/\q_g (beginF b_1.1 b_1.2.1 b_1.2.2).2.1 (begB f tx o).2.1/\(beginF b_1.1 b_1.2.1 b_1.2.2).2.2=(begB f tx o).2.2))))/\((!inR b.1 b.2.1 b.2.2)=true->k_1))/\((!froB b)=true->k_1))=_ by kernel_rfl) ?_
 delta i_0 n_1000 i_29 t_e q_e t_f q_f t_g q_g t_h q_h t_j q_j
 simp only [zza,zzb,true_and,and_true,and_self,ne_eq,cI_app,cWrtO_app,cWrtS_app,cWrtO_1,cItemO_1,opr_ex,zcast,frz_nil,nil_map,wayEq_self,Option.getD_none,Option.getD_some]
 have no:(froB f&&inR tx 0 29&&opOk o)=false->[]=(begB f tx o).1.disk.notes/\0=(begB f tx o).1.disk.safe/\[]=(begB f tx o).1.way/\[]=(begB f tx o).2.1/\false=(begB f tx o).2.2:=fun h=>by
  simp only [begB,h];exact ⟨rfl,rfl,rfl,rfl,rfl⟩
 refine ⟨fun h1=>⟨fun h2=>⟨fun h3=>no (by simp at h3;simp [h3]),fun h3=>?_⟩,fun h2=>no (by simp at h2;simp [h2])⟩,fun h1=>no (by simp at h1;simp [h1])⟩
 simp only [Bool.not_eq_false'] at h1 h2 h3
 have e:begB f tx o=beginF f tx o:=by simp only [begB,h1,h2,h3,Bool.and_self,if_true]
 have hf:=froB_iff.1 h1
 rw [e]
 exact ⟨hf.small,hf.small.1.1,hf.small.2.1,(begin_ok hf (by simpa [inR] using h2) h3).small,rfl,rfl,rfl,rfl,rfl⟩
def spec_FroBegin_c:Con Tryz.prog:=con0 [.lend,.lend,.lend] fun b:Front×Int×Opr=>spec_FroBegin_ok (b.1) (b.2.1) (b.2.2)
theorem laws_jaFront_ok (a:Front) (b:Front):FunOK Tryz.prog 37 2 [] [(0,kFrontS a),(1,kFrontS b)] (·=[(2,kB (decide (a=b)))]):=by
 refine fun_to (E:=⟨tabM,ctOf [laws_jaDisk_c,laws_jaInts_c],75,[],[(0,[2,3]),(1,[2,3,22]),(2,[4]),(3,[2,3,5]),(4,[2,3,5,27]),(5,[2,3,5]),(6,[2,3,5,6]),(7,[2,3,5,6,7]),(8,[2,3,5,74]),(9,[4]),(10,[4])],[(0,⟨List Note×Int×List FTx×Nat,fun x=>[(2,⟨.box,[.c (.sh 72 (typ dNote eNoteS a.disk.notes)),.c (.n .i64 a.disk.safe),.c (.sh 36 (typ dFTx eFTxS a.way))],[]⟩),(3,⟨.box,[.c (sNotes (x.1)),.c (.n .i64 (x.2.1)),.c (sFTxs (x.2.2.1))],[]⟩),(5,(k1 (.n .i64 (x.2.2.2:Int))))]⟩)],[],[],[]⟩) tabM_ok mixed Tryz.func37 rfl Tryz.ntmps37 (rvs:=[.tmp 4]) Tryz.results37 rfl fun hl=>?_
 refine cast (show (let k_1:Prop:=q_e a.disk.notes a.disk.notes/\a.disk.safe=a.disk.safe/\q_h a.way a.way;∃ (b_1:Disk×Disk),((q_e a.disk.notes b_1.1.notes/\a.disk.safe=b_1.1.safe)/\q_e b.disk.notes b_1.2.notes/\b.disk.safe=b_1.2.safe)/\((!decide (b_1.1=b_1.2))=false->(((zi a.way.length) != zi b.way.length)=true->false=decide (a=b))/\(((zi a.way.length) != zi b.way.length)=false->∃ (pre:y_22->Prop),∃ (μ:y_22->Nat),∃ (x0:y_22),(k_1/\(q_e b.disk.notes x0.1/\b.disk.safe=x0.2.1/\q_h b.way x0.2.2.1)/\i_0=zi x0.2.2.2)/\pre x0/\(∀ (x:y_22),pre x->(decide (zi x.2.2.2<zi a.way.length)=true->(i_0<=zi x.2.2.2/\zi x.2.2.2<zi a.way.length)/\(i_0<=zi x.2.2.2/\zi x.2.2.2<zi x.2.2.1.length)/\(((g_FTx a.way x.2.2.2).tx != (g_FTx x.2.2.1 x.2.2.2).tx)=false->((if true=true then !((g_FTx a.way x.2.2.2).op.kind==(g_FTx x.2.2.1 x.2.2.2).op.kind&&((g_FTx a.way x.2.2.2).op.who==(g_FTx x.2.2.1 x.2.2.2).op.who&&((g_FTx a.way x.2.2.2).op.inn==(g_FTx x.2.2.1 x.2.2.2).op.inn&&((g_FTx a.way x.2.2.2).op.code==(g_FTx x.2.2.1 x.2.2.2).op.code&&((g_FTx a.way x.2.2.2).op.sec==(g_FTx x.2.2.1 x.2.2.2).op.sec&&((g_FTx a.way x.2.2.2).op.fam==(g_FTx x.2.2.1 x.2.2.2).op.fam&&(g_FTx a.way x.2.2.2).op.gen==(g_FTx x.2.2.1 x.2.2.2).op.gen)))))) else (g_FTx a.way x.2.2.2).op.kind==(g_FTx x.2.2.1 x.2.2.2).op.kind&&((g_FTx a.way x.2.2.2).op.who==(g_FTx x.2.2.1 x.2.2.2).op.who&&((g_FTx a.way x.2.2.2).op.inn==(g_FTx x.2.2.1 x.2.2.2).op.inn&&((g_FTx a.way x.2.2.2).op.code==(g_FTx x.2.2.1 x.2.2.2).op.code&&((g_FTx a.way x.2.2.2).op.sec==(g_FTx x.2.2.1 x.2.2.2).op.sec&&((g_FTx a.way x.2.2.2).op.fam==(g_FTx x.2.2.1 x.2.2.2).op.fam&&(g_FTx a.way x.2.2.2).op.gen==(g_FTx x.2.2.1 x.2.2.2).op.gen))))))=false->((if true=true then !(g_FTx a.way x.2.2.2).yes==(g_FTx x.2.2.1 x.2.2.2).yes else (g_FTx a.way x.2.2.2).yes==(g_FTx x.2.2.1 x.2.2.2).yes)=false->∃ (b_2:y_10),(q_I (g_FTx a.way x.2.2.2).can b_2.1/\q_I (g_FTx x.2.2.1 x.2.2.2).can b_2.2)/\((!decide (b_2.1=b_2.2))=false->∃ (b_3:y_10),(q_I (g_FTx a.way x.2.2.2).know b_3.1/\q_I (g_FTx x.2.2.1 x.2.2.2).know b_3.2)/\((!decide (b_3.1=b_3.2))=true->false=decide (a=b))/\((!decide (b_3.1=b_3.2))=false->∃ (y:y_22),(k_1/\(q_e x.1 y.1/\x.2.1=y.2.1/\q_h x.2.2.1 y.2.2.1)/\wr_ ((zi x.2.2.2)+i_1)=zi y.2.2.2)/\pre y/\μ y<μ x))/\((!decide (b_2.1=b_2.2))=true->false=decide (a=b)))/\((if true=true then !(g_FTx a.way x.2.2.2).yes==(g_FTx x.2.2.1 x.2.2.2).yes else (g_FTx a.way x.2.2.2).yes==(g_FTx x.2.2.1 x.2.2.2).yes)=true->false=decide (a=b)))/\((if true=true then !((g_FTx a.way x.2.2.2).op.kind==(g_FTx x.2.2.1 x.2.2.2).op.kind&&((g_FTx a.way x.2.2.2).op.who==(g_FTx x.2.2.1 x.2.2.2).op.who&&((g_FTx a.way x.2.2.2).op.inn==(g_FTx x.2.2.1 x.2.2.2).op.inn&&((g_FTx a.way x.2.2.2).op.code==(g_FTx x.2.2.1 x.2.2.2).op.code&&((g_FTx a.way x.2.2.2).op.sec==(g_FTx x.2.2.1 x.2.2.2).op.sec&&((g_FTx a.way x.2.2.2).op.fam==(g_FTx x.2.2.1 x.2.2.2).op.fam&&(g_FTx a.way x.2.2.2).op.gen==(g_FTx x.2.2.1 x.2.2.2).op.gen)))))) else (g_FTx a.way x.2.2.2).op.kind==(g_FTx x.2.2.1 x.2.2.2).op.kind&&((g_FTx a.way x.2.2.2).op.who==(g_FTx x.2.2.1 x.2.2.2).op.who&&((g_FTx a.way x.2.2.2).op.inn==(g_FTx x.2.2.1 x.2.2.2).op.inn&&((g_FTx a.way x.2.2.2).op.code==(g_FTx x.2.2.1 x.2.2.2).op.code&&((g_FTx a.way x.2.2.2).op.sec==(g_FTx x.2.2.1 x.2.2.2).op.sec&&((g_FTx a.way x.2.2.2).op.fam==(g_FTx x.2.2.1 x.2.2.2).op.fam&&(g_FTx a.way x.2.2.2).op.gen==(g_FTx x.2.2.1 x.2.2.2).op.gen))))))=true->false=decide (a=b)))/\(((g_FTx a.way x.2.2.2).tx != (g_FTx x.2.2.1 x.2.2.2).tx)=true->false=decide (a=b)))/\(decide (zi x.2.2.2<zi a.way.length)=false->true=decide (a=b)))))/\((!decide (b_1.1=b_1.2))=true->false=decide (a=b)))=_ by kernel_rfl) ?_
 delta i_0 i_1 wr_ zi t_I q_I y_10 t_e q_e g_FTx t_h q_h y_22
 simp only [zza,zzb,true_and,and_true,and_self,ne_eq,cI_app,cWrtO_app,cWrtS_app,cWrtO_1,cItemO_1,opr_ex,zcast,frz_nil,nil_map,wayEq_self,Option.getD_none,Option.getD_some]
 have hx:a.way.length<=9223372036854775807:=hl.1 (.c (sFTxs a.way)) (by simp)
 simp only [if_true]
 refine ⟨fun h1=>⟨fun h2=>?_,fun h2=>?_⟩,fun h1=>?_⟩
 ·exact (decide_eq_false fun he=>h2 (by rw [he])).symm
 rotate_left
 ·exact (decide_eq_false fun he=>by subst he;simp at h1).symm
 have hd:a.disk=b.disk:=by simpa using h1
 have hlen:=len_ne h2
 refine ⟨fun z=>z.1=b.disk.notes/\z.2.1=b.disk.safe/\z.2.2.1=b.way/\z.2.2.2<=a.way.length/\∀ j,j<z.2.2.2->a.way.getD j dFTx=b.way.getD j dFTx,⟨rfl,rfl,rfl,by simp only;omega,fun j hj=>absurd hj (Nat.not_lt_zero _)⟩,fun z=>a.way.length-z.2.2.2,fun c1 c2 c3 i hp=>?_⟩
 simp only at hp
 obtain ⟨rfl,rfl,rfl,h3,h4⟩:=hp
 have no:a.way.getD i dFTx≠b.way.getD i dFTx->false=decide (a=b):=fun h=>(decide_eq_false fun he=>h (by rw [he])).symm
 have go:i<a.way.length->a.way.getD i dFTx=b.way.getD i dFTx->∃ x:Nat,IntKind.i64.wrap ((i:Int)+1)=(x:Int)/\(b.disk.notes=b.disk.notes/\b.disk.safe=b.disk.safe/\b.way=b.way/\x<=a.way.length/\∀ j,j<x->a.way.getD j dFTx=b.way.getD j dFTx)/\a.way.length-x<a.way.length-i:=fun hlt e =>
  ⟨i+1,wrapN (by omega),⟨rfl,rfl,rfl,by omega,below_succ h4 e⟩,by omega⟩
 refine ⟨fun hlt=>⟨by omega,hlt,by omega,by omega,?_⟩,fun hge=>(decide_eq_true (Front_ext hd (ext_getD (d:=dFTx) hlen fun j hj=>h4 j (by omega)))).symm⟩
 have go:=go (by omega)
 clear h4
 generalize a.way.getD i dFTx=X at *
 generalize b.way.getD i dFTx=Y at *
 refine ⟨fun e1=>⟨fun e2=>⟨fun e3=>⟨fun e4=>⟨fun e5=>no ?_,fun e5=>go ?_⟩,fun e4=>no ?_⟩,fun e3=>no ?_⟩,fun e2=>no ?_⟩,fun e1=>no ?_⟩
 ·rintro rfl;simp at e5
 ·obtain ⟨x1,⟨k1,k2,k3,k4,k5,k6,k7⟩,x3,x4,x5⟩:=X
  obtain ⟨y1,⟨l1,l2,l3,l4,l5,l6,l7⟩,y3,y4,y5⟩:=Y
  simp at e1 e2 e3 e4 e5
  simp [e1,e2,e3,e4,e5]
 ·rintro rfl;simp at e4
 ·rintro rfl;simp at e3
 ·rintro rfl;simp at e2
 ·rintro rfl;simp at e1
def laws_jaFront_c:Con Tryz.prog:=con0 [.lend,.lend] fun b:Front×Front=>laws_jaFront_ok (b.1) (b.2)
end Go.Proofs.AI
namespace Go.Proofs.AI
open Go.RowKit Go.Proofs
set_option linter.unusedVariables false
set_option linter.unusedSimpArgs false
set_option maxRecDepth 100000
def begDr (l:List Int):Front×Int×Opr :=
 let a:=frontD l 0 12
 ((a.1),([pickB l a.2 30,-1,30]:List Int).getD (([0,0,0,0,1,2]:List Int).getD (pickB l (a.2+1) 6).toNat 0).toNat 0,(opB l (a.2+2) 9).1)
theorem spec_DrawFroBegin_ok (l:List Int) (hpre:okU l):FunOK Tryz.prog 41 1 [] [(0,k1 (sU l))] (·=[(1,⟨.tup [(true,3),(false,1),(true,7)],[.c (oNotes (begDr (l.take 2000)).1.disk.notes),.c (.n .i64 (begDr (l.take 2000)).1.disk.safe),.c (oFTxs (begDr (l.take 2000)).1.way),.c (.n .i64 (begDr (l.take 2000)).2.1),.c (.n .i64 (begDr (l.take 2000)).2.2.kind),.c (.n .i64 (begDr (l.take 2000)).2.2.who),.c (.n .i64 (begDr (l.take 2000)).2.2.inn),.c (.n .i64 (begDr (l.take 2000)).2.2.code),.c (.n .i64 (begDr (l.take 2000)).2.2.sec),.c (.n .i64 (begDr (l.take 2000)).2.2.fam),.c (.n .i64 (begDr (l.take 2000)).2.2.gen)],[]⟩)]):=by
 refine fun_to (E:=⟨tab,ctOf [spec_l20Front_c,spec_l20Open_c,spec_rd_pick_c,spec_l20Op_c],22,[],[(0,[0,2,4,9]),(1,[2,4,5,7,9]),(2,[2,3,4,9])],[],[],[],[]⟩) tab_ok mixed Tryz.func41 rfl Tryz.ntmps41 (rvs:=[.cell 2 28,.tmp 3,.cell 4 33]) Tryz.results41 rfl fun hl=>?_
 refine cast (show (∃ (b:List Int),q_U l b/\∃ (b_1:y_6),((q_U (List.take n_2000 b) b_1.1/\zi n_0=zi b_1.2.1)/\i_12=b_1.2.2)/\(rdB b_1.1 b_1.2.1 n_4000/\b_1.2.2<i_1000000)/\∃ (b:y_6),((q_U b_1.1 b.1/\(zi (frontD b_1.1 b_1.2.1 b_1.2.2).2)=zi b.2.1)/\i_30=b.2.2)/\rdB b.1 b.2.1 n_1/\∃ (b_2:y_6),((q_U b.1 b_2.1/\(zi (b.2.1+n_1))=zi b_2.2.1)/\i_6=b_2.2.2)/\rdB b_2.1 b_2.2.1 n_1/\(i_0<=pickB b_2.1 b_2.2.1 b_2.2.2/\pickB b_2.1 b_2.2.1 b_2.2.2<zi n_6)/\(pickB b_2.1 b_2.2.1 b_2.2.2).toNat<n_6/\(i_0<=[i_0,i_0,i_0,i_0,i_1,i_2].getD (pickB b_2.1 b_2.2.1 b_2.2.2).toNat i_0/\[i_0,i_0,i_0,i_0,i_1,i_2].getD (pickB b_2.1 b_2.2.1 b_2.2.2).toNat i_0<zi n_3)/\([i_0,i_0,i_0,i_0,i_1,i_2].getD (pickB b_2.1 b_2.2.1 b_2.2.2).toNat i_0).toNat<n_3/\∃ (b_3:y_6),((q_U b_2.1 b_3.1/\(zi (b_2.2.1+n_1))=zi b_3.2.1)/\i_9=b_3.2.2)/\(rdB b_3.1 b_3.2.1 n_8/\b_3.2.2<i_1000000)/\q_f (frontD b_1.1 b_1.2.1 b_1.2.2).1.disk.notes (begDr (List.take n_2000 l)).1.disk.notes/\(frontD b_1.1 b_1.2.1 b_1.2.2).1.disk.safe=(begDr (List.take n_2000 l)).1.disk.safe/\q_j (frontD b_1.1 b_1.2.1 b_1.2.2).1.way (begDr (List.take n_2000 l)).1.way/\[pickB b.1 b.2.1 b.2.2,(-1:Int),i_30].getD ([i_0,i_0,i_0,i_0,i_1,i_2].getD (pickB b_2.1 b_2.2.1 b_2.2.2).toNat i_0).toNat i_0=(begDr (List.take n_2000 l)).2.1/\(opB b_3.1 b_3.2.1 b_3.2.2).1.kind=(begDr (List.take n_2000 l)).2.2.kind/\(opB b_3.1 b_3.2.1 b_3.2.2).1.who=(begDr (List.take n_2000 l)).2.2.who/\(opB b_3.1 b_3.2.1 b_3.2.2).1.inn=(begDr (List.take n_2000 l)).2.2.inn/\(opB b_3.1 b_3.2.1 b_3.2.2).1.code=(begDr (List.take n_2000 l)).2.2.code/\(opB b_3.1 b_3.2.1 b_3.2.2).1.sec=(begDr (List.take n_2000 l)).2.2.sec/\(opB b_3.1 b_3.2.1 b_3.2.2).1.fam=(begDr (List.take n_2000 l)).2.2.fam/\(opB b_3.1 b_3.2.1 b_3.2.2).1.gen=(begDr (List.take n_2000 l)).2.2.gen)=_ by kernel_rfl) ?_
 delta i_0 i_9 i_1 i_2 zi n_0 n_8 n_1 n_3 i_1000000 t_U q_U n_2000 y_6 i_6 i_12 i_30 n_6 t_f q_f t_j q_j n_4000
 simp only [zza,zzb,true_and,and_true,and_self,ne_eq,cI_app,cWrtO_app,cWrtS_app,cWrtO_1,cItemO_1,opr_ex,zcast,frz_nil,nil_map,wayEq_self,Option.getD_none,Option.getD_some]
 have hr:rdB (l.take 2000) 0 4000:=⟨fun x hx=>hpre x (List.mem_of_mem_take hx),by omega⟩
 generalize l.take 2000=L at *
 have hd:=frontD_le 12 hr
 simp only [begDr]
 generalize frontD L 0 12=A at *
 have b:=pick_lt (l:=L) (p:=A.2+1) (n:=6) (rdB_le hr (by omega):rdB L (A.2+1) 1) (by omega)
 generalize pickB L (A.2+1) 6=i at *
 have hi:i=0∨i=1∨i=2∨i=3∨i=4∨i=5:=by omega
 have hk:0<=([0,0,0,0,1,2]:List Int).getD i.toNat 0/\([0,0,0,0,1,2]:List Int).getD i.toNat 0<3:=by rcases hi with rfl | rfl | rfl | rfl | rfl | rfl<;>decide
 exact ⟨hr,by omega,rdB_le hr (by omega),rdB_le hr (by omega),by omega,by omega,by omega,hk.1,hk.2,by omega,rdB_le hr (by omega),by omega,trivial,trivial,trivial,trivial,trivial,trivial,trivial,trivial,trivial,trivial,trivial⟩
def spec_DrawFroBegin_c:Con Tryz.prog:=conP [.lend] fun (b:List Int) h=>spec_DrawFroBegin_ok b h
end Go.Proofs.AI
namespace Go.Proofs.AI
open Go.RowKit Go.Proofs
set_option linter.unusedVariables false
set_option linter.unusedSimpArgs false
set_option maxRecDepth 100000
set_option pp.deepTerms true
set_option pp.maxSteps 40000
theorem getD_last {w:List FTx} {t:FTx}:(w++[t]).getD w.length dFTx=t:=by
 rw [List.getD_eq_getElem?_getD,List.getElem?_append_right (Nat.le_refl _)];simp
theorem at_last {d:Disk} {w:List FTx} {t:FTx} (h:okF ⟨d,w++[t]⟩):atF (w++[t]) t.tx=(w.length:Int):=by
 have:=h.at_eq (k:=w.length) (by simp)
 simp only [getD_last] at this
 exact this
theorem begin_new {f:Front} {tx:Int} {o:Opr} (hb:¬ noBegin f tx):beginF f tx o=(⟨f.disk,f.way++[⟨tx,o,false,[],[]⟩]⟩,sendF 1 tx o (placesL o),true):=by rw [beginF,if_neg hb]
theorem laws_FnFroBegin_ok (l:List Int) (hpre:okU l):FunOK Tryz.prog 7 1 [] [(0,k1 (sU l))] (·=[(1,kB true)]):=by
 refine fun_to (E:=⟨tabM,ctOf [impl_FroOk_c,spec_FroOk_c,laws_jaOk_c,laws_jaMsgs_c,impl_OpPlaces_c,laws_jaFront_c,spec_DrawFroBegin_c,impl_FroBegin_c,spec_FroBegin_c,spec_OpOk_c],161,[],[(0,[0]),(1,[0,19]),(2,[2]),(3,[3,4,5]),(4,[3,4,5,6,7,8,26,30,32]),(5,[3,4,5,6,7,8,9,10,11,26,30,32,34,38,40]),(6,[3,4,5,6,7,8,26,30,32,56]),(7,[2]),(8,[3,4,5,6,7,8,26,30,32,72]),(9,[2]),(10,[3,4,5,6,7,26,30,32,90]),(11,[2]),(12,[3,4,5,6,7,12,26,30,32,100]),(13,[3,4,5,6,7,12,26,30,32,100,120]),(14,[2]),(15,[3,4,5,6,7,12,13,26,30,32,100]),(16,[3,4,5,6,7,12,13,26,30,32,100,124]),(17,[3,4,5,6,7,12,13,26,30,32,100]),(18,[3,4,5,6,7,12,13,26,30,32,100,138]),(19,[2]),(20,[3,4,6,16]),(21,[2])],[(0,⟨Nat,fun x=>[(3,⟨.box,[.c (.sh 72 (frozenRs (typ dNote eNoteO (begDr (List.take (2000:Nat) l)).fst.disk.notes))),.c (.n .i64 ((begDr (List.take (2000:Nat) l)).fst.disk.safe)),.c (.sh 36 (frozenRs (typ dFTx eFTxO (begDr (List.take (2000:Nat) l)).fst.way)))],[]⟩),(4,(k1 (.n .i64 ((begDr (List.take (2000:Nat) l)).snd.fst)))),(5,⟨.box,[.c (.n .i64 ((begDr (List.take (2000:Nat) l)).snd.snd.kind)),.c (.n .i64 ((begDr (List.take (2000:Nat) l)).snd.snd.who)),.c (.n .i64 ((begDr (List.take (2000:Nat) l)).snd.snd.inn)),.c (.n .i64 ((begDr (List.take (2000:Nat) l)).snd.snd.code)),.c (.n .i64 ((begDr (List.take (2000:Nat) l)).snd.snd.sec)),.c (.n .i64 ((begDr (List.take (2000:Nat) l)).snd.snd.fam)),.c (.n .i64 ((begDr (List.take (2000:Nat) l)).snd.snd.gen))],[]⟩),(6,⟨.box,[.c (.sh 72 (frozenRs (typ dNote eNoteO (begB (begDr (List.take (2000:Nat) l)).fst (begDr (List.take (2000:Nat) l)).snd.fst (begDr (List.take (2000:Nat) l)).snd.snd).fst.disk.notes))),.c (.n .i64 ((begB (begDr (List.take (2000:Nat) l)).fst (begDr (List.take (2000:Nat) l)).snd.fst (begDr (List.take (2000:Nat) l)).snd.snd).fst.disk.safe)),.c (.sh 36 (frozenRs (typ dFTx eFTxO (begB (begDr (List.take (2000:Nat) l)).fst (begDr (List.take (2000:Nat) l)).snd.fst (begDr (List.take (2000:Nat) l)).snd.snd).fst.way)))],[]⟩),(7,(k1 (.sh 63 (frozenRs (typ dMsg eMsg (begB (begDr (List.take (2000:Nat) l)).fst (begDr (List.take (2000:Nat) l)).snd.fst (begDr (List.take (2000:Nat) l)).snd.snd).snd.fst))))),(12,(k1 (.ow 3 (typ (0:Int) eI (placesL (begDr (List.take (2000:Nat) l)).snd.snd))))),(13,(k1 (.n .i64 (x:Int)))),(26,⟨.tup [(true,(3:Nat)),(false,(1:Nat)),(false,(1:Nat))],[.c (.sh 72 (frozenRs (typ dNote eNoteO (begB (begDr (List.take (2000:Nat) l)).fst (begDr (List.take (2000:Nat) l)).snd.fst (begDr (List.take (2000:Nat) l)).snd.snd).fst.disk.notes))),.c (.n .i64 ((begB (begDr (List.take (2000:Nat) l)).fst (begDr (List.take (2000:Nat) l)).snd.fst (begDr (List.take (2000:Nat) l)).snd.snd).fst.disk.safe)),.c (.sh 36 (frozenRs (typ dFTx eFTxO (begB (begDr (List.take (2000:Nat) l)).fst (begDr (List.take (2000:Nat) l)).snd.fst (begDr (List.take (2000:Nat) l)).snd.snd).fst.way))),.c (.sh 63 (frozenRs (typ dMsg eMsg (begB (begDr (List.take (2000:Nat) l)).fst (begDr (List.take (2000:Nat) l)).snd.fst (begDr (List.take (2000:Nat) l)).snd.snd).snd.fst))),.c (.b ((begB (begDr (List.take (2000:Nat) l)).fst (begDr (List.take (2000:Nat) l)).snd.fst (begDr (List.take (2000:Nat) l)).snd.snd).snd.snd))],[]⟩),(30,⟨.tup [(true,(3:Nat)),(false,(1:Nat)),(false,(1:Nat))],[.c (.sh 72 (frozenRs (typ dNote eNoteO (begB (begDr (List.take (2000:Nat) l)).fst (begDr (List.take (2000:Nat) l)).snd.fst (begDr (List.take (2000:Nat) l)).snd.snd).fst.disk.notes))),.c (.n .i64 ((begB (begDr (List.take (2000:Nat) l)).fst (begDr (List.take (2000:Nat) l)).snd.fst (begDr (List.take (2000:Nat) l)).snd.snd).fst.disk.safe)),.c (.sh 36 (frozenRs (typ dFTx eFTxO (begB (begDr (List.take (2000:Nat) l)).fst (begDr (List.take (2000:Nat) l)).snd.fst (begDr (List.take (2000:Nat) l)).snd.snd).fst.way))),.c (.sh 63 (frozenRs (typ dMsg eMsg (begB (begDr (List.take (2000:Nat) l)).fst (begDr (List.take (2000:Nat) l)).snd.fst (begDr (List.take (2000:Nat) l)).snd.snd).snd.fst))),.c (.b ((begB (begDr (List.take (2000:Nat) l)).fst (begDr (List.take (2000:Nat) l)).snd.fst (begDr (List.take (2000:Nat) l)).snd.snd).snd.snd))],[]⟩),(32,(k1 (.sh 63 (frozenRs (typ dMsg eMsg (begB (begDr (List.take (2000:Nat) l)).fst (begDr (List.take (2000:Nat) l)).snd.fst (begDr (List.take (2000:Nat) l)).snd.snd).snd.fst))))),(100,(k1 .any))]⟩)],[(3,[(2,[22])]),(4,[(4,[30])]),(5,[(4,[38])]),(6,[(1000006,[])]),(9,[(1000003,[])]),(11,[(1000004,[])]),(20,[(4,[143])])],[],[]⟩) tabM_ok mixed Tryz.func7 rfl Tryz.ntmps7 (rvs:=[.tmp 2]) Tryz.results7 rfl fun hl=>?_
 refine cast (show (let k_6:Prop:=∃ (b:Unit),True/\true=true;let k_5:Prop:=(begB (begDr (List.take n_2000 l)).1 (begDr (List.take n_2000 l)).2.1 (begDr (List.take n_2000 l)).2.2).1.disk.safe=(begB (begDr (List.take n_2000 l)).1 (begDr (List.take n_2000 l)).2.1 (begDr (List.take n_2000 l)).2.2).1.disk.safe;let k_4:Prop:=cnRs (frozenRs (typ dMsg eMsg (begB (begDr (List.take n_2000 l)).1 (begDr (List.take n_2000 l)).2.1 (begDr (List.take n_2000 l)).2.2).2.1))=cnRs (frozenRs (typ dMsg eMsg (begB (begDr (List.take n_2000 l)).1 (begDr (List.take n_2000 l)).2.1 (begDr (List.take n_2000 l)).2.2).2.1));let k_3:Prop:=cnRs (frozenRs (typ dFTx eFTxO (begB (begDr (List.take n_2000 l)).1 (begDr (List.take n_2000 l)).2.1 (begDr (List.take n_2000 l)).2.2).1.way))=cnRs (frozenRs (typ dFTx eFTxO (begB (begDr (List.take n_2000 l)).1 (begDr (List.take n_2000 l)).2.1 (begDr (List.take n_2000 l)).2.2).1.way));let k_2:Prop:=cnRs (frozenRs (typ dNote eNoteO (begB (begDr (List.take n_2000 l)).1 (begDr (List.take n_2000 l)).2.1 (begDr (List.take n_2000 l)).2.2).1.disk.notes))=cnRs (frozenRs (typ dNote eNoteO (begB (begDr (List.take n_2000 l)).1 (begDr (List.take n_2000 l)).2.1 (begDr (List.take n_2000 l)).2.2).1.disk.notes));let k_1:Prop:=k_2/\k_5/\k_3/\k_4/\(begB (begDr (List.take n_2000 l)).1 (begDr (List.take n_2000 l)).2.1 (begDr (List.take n_2000 l)).2.2).2.2=(begB (begDr (List.take n_2000 l)).1 (begDr (List.take n_2000 l)).2.1 (begDr (List.take n_2000 l)).2.2).2.2;(decide ((zi l.length)>i_1048576)=true->true=true)/\(decide ((zi l.length)>i_1048576)=false->∃ (b:List Int),q_U l b/\okU b/\(∃ (b_1:Front×Int×Opr),let k_15:Prop:=(!(begB b_1.1 b_1.2.1 b_1.2.2).2.2)=true;let k_14:Prop:=(!(begB b_1.1 b_1.2.1 b_1.2.2).2.2)=false;let k_13:Prop:=((zi (begB b_1.1 b_1.2.1 b_1.2.2).2.1.length)==i_0)=true;let k_12:Prop:=(begB b_1.1 b_1.2.1 b_1.2.2).1.disk.safe=(begB (begDr (List.take n_2000 l)).1 (begDr (List.take n_2000 l)).2.1 (begDr (List.take n_2000 l)).2.2).1.disk.safe;let k_11:Prop:=cnRs (frozenRs (typ dMsg eMsg (begB b_1.1 b_1.2.1 b_1.2.2).2.1))=cnRs (frozenRs (typ dMsg eMsg (begB (begDr (List.take n_2000 l)).1 (begDr (List.take n_2000 l)).2.1 (begDr (List.take n_2000 l)).2.2).2.1));let k_10:Prop:=cnRs (frozenRs (typ dFTx eFTxO (begB b_1.1 b_1.2.1 b_1.2.2).1.way))=cnRs (frozenRs (typ dFTx eFTxO (begB (begDr (List.take n_2000 l)).1 (begDr (List.take n_2000 l)).2.1 (begDr (List.take n_2000 l)).2.2).1.way));let k_9:Prop:=cnRs (frozenRs (typ dNote eNoteO (begB b_1.1 b_1.2.1 b_1.2.2).1.disk.notes))=cnRs (frozenRs (typ dNote eNoteO (begB (begDr (List.take n_2000 l)).1 (begDr (List.take n_2000 l)).2.1 (begDr (List.take n_2000 l)).2.2).1.disk.notes));let k_8:Prop:=(k_15->(k_13->(((zi (begB b_1.1 b_1.2.1 b_1.2.2).1.way.length)==i_0)=true->k_6)/\(((zi (begB b_1.1 b_1.2.1 b_1.2.2).1.way.length)==i_0)=false->false=true))/\(((zi (begB b_1.1 b_1.2.1 b_1.2.2).2.1.length)==i_0)=false->false=true))/\(k_14->false=true);let k_7:Prop:=k_9/\k_12/\k_10/\k_11/\(begB b_1.1 b_1.2.1 b_1.2.2).2.2=(begB (begDr (List.take n_2000 l)).1 (begDr (List.take n_2000 l)).2.1 (begDr (List.take n_2000 l)).2.2).2.2;((cnRs (frozenRs (typ dNote eNoteO (begDr (List.take n_2000 b)).1.disk.notes))=t_e b_1.1.disk.notes/\(begDr (List.take n_2000 b)).1.disk.safe=b_1.1.disk.safe/\cnRs (frozenRs (typ dFTx eFTxO (begDr (List.take n_2000 b)).1.way))=t_h b_1.1.way)/\(begDr (List.take n_2000 b)).2.1=b_1.2.1/\(begDr (List.take n_2000 b)).2.2.kind=b_1.2.2.kind/\(begDr (List.take n_2000 b)).2.2.who=b_1.2.2.who/\(begDr (List.take n_2000 b)).2.2.inn=b_1.2.2.inn/\(begDr (List.take n_2000 b)).2.2.code=b_1.2.2.code/\(begDr (List.take n_2000 b)).2.2.sec=b_1.2.2.sec/\(begDr (List.take n_2000 b)).2.2.fam=b_1.2.2.fam/\(begDr (List.take n_2000 b)).2.2.gen=b_1.2.2.gen)/\(∃ (b_2:Front×Int×Opr),((cnRs (frozenRs (typ dNote eNoteO (begDr (List.take n_2000 b)).1.disk.notes))=t_e b_2.1.disk.notes/\(begDr (List.take n_2000 b)).1.disk.safe=b_2.1.disk.safe/\cnRs (frozenRs (typ dFTx eFTxO (begDr (List.take n_2000 b)).1.way))=t_h b_2.1.way)/\(begDr (List.take n_2000 b)).2.1=b_2.2.1/\(begDr (List.take n_2000 b)).2.2.kind=b_2.2.2.kind/\(begDr (List.take n_2000 b)).2.2.who=b_2.2.2.who/\(begDr (List.take n_2000 b)).2.2.inn=b_2.2.2.inn/\(begDr (List.take n_2000 b)).2.2.code=b_2.2.2.code/\(begDr (List.take n_2000 b)).2.2.sec=b_2.2.2.sec/\(begDr (List.take n_2000 b)).2.2.fam=b_2.2.2.fam/\(begDr (List.take n_2000 b)).2.2.gen=b_2.2.2.gen)/\(∃ (b_3:Front×Front),((cnRs (frozenRs (typ dNote eNoteO (begB b_1.1 b_1.2.1 b_1.2.2).1.disk.notes))=t_e b_3.1.disk.notes/\(begB b_1.1 b_1.2.1 b_1.2.2).1.disk.safe=b_3.1.disk.safe/\cnRs (frozenRs (typ dFTx eFTxO (begB b_1.1 b_1.2.1 b_1.2.2).1.way))=t_h b_3.1.way)/\cnRs (frozenRs (typ dNote eNoteO (begB b_2.1 b_2.2.1 b_2.2.2).1.disk.notes))=t_e b_3.2.disk.notes/\(begB b_2.1 b_2.2.1 b_2.2.2).1.disk.safe=b_3.2.disk.safe/\cnRs (frozenRs (typ dFTx eFTxO (begB b_2.1 b_2.2.1 b_2.2.2).1.way))=t_h b_3.2.way)/\((!decide (b_3.1=b_3.2))=false->∃ (b_4:y_32),(cnRs (frozenRs (typ dMsg eMsg (begB b_1.1 b_1.2.1 b_1.2.2).2.1))=t_g b_4.1/\cnRs (frozenRs (typ dMsg eMsg (begB b_2.1 b_2.2.1 b_2.2.2).2.1))=t_g b_4.2)/\((!decide (b_4.1=b_4.2))=false->((if true=true then !(begB b_1.1 b_1.2.1 b_1.2.2).2.2==(begB b_2.1 b_2.2.1 b_2.2.2).2.2 else (begB b_1.1 b_1.2.1 b_1.2.2).2.2==(begB b_2.1 b_2.2.1 b_2.2.2).2.2)=true->false=true)/\((if true=true then !(begB b_1.1 b_1.2.1 b_1.2.2).2.2==(begB b_2.1 b_2.2.1 b_2.2.2).2.2 else (begB b_1.1 b_1.2.1 b_1.2.2).2.2==(begB b_2.1 b_2.2.1 b_2.2.2).2.2)=false->∃ (b_5:Front),(cnRs (frozenRs (typ dNote eNoteO (begDr (List.take n_2000 b)).1.disk.notes))=t_e b_5.disk.notes/\(begDr (List.take n_2000 b)).1.disk.safe=b_5.disk.safe/\cnRs (frozenRs (typ dFTx eFTxO (begDr (List.take n_2000 b)).1.way))=t_h b_5.way)/\((!froB b_5)=false->(decide ((begDr (List.take n_2000 b)).2.1<i_0)=false->(decide ((begDr (List.take n_2000 b)).2.1>i_29)=false->∃ (b_6:Opr),((begDr (List.take n_2000 b)).2.2.kind=b_6.kind/\(begDr (List.take n_2000 b)).2.2.who=b_6.who/\(begDr (List.take n_2000 b)).2.2.inn=b_6.inn/\(begDr (List.take n_2000 b)).2.2.code=b_6.code/\(begDr (List.take n_2000 b)).2.2.sec=b_6.sec/\(begDr (List.take n_2000 b)).2.2.fam=b_6.fam/\(begDr (List.take n_2000 b)).2.2.gen=b_6.gen)/\((!opOk b_6)=true->k_8)/\((!opOk b_6)=false->(k_15->∃ (b_7:Front×Front),((cnRs (frozenRs (typ dNote eNoteO (begB b_1.1 b_1.2.1 b_1.2.2).1.disk.notes))=t_e b_7.1.disk.notes/\(begB b_1.1 b_1.2.1 b_1.2.2).1.disk.safe=b_7.1.disk.safe/\cnRs (frozenRs (typ dFTx eFTxO (begB b_1.1 b_1.2.1 b_1.2.2).1.way))=t_h b_7.1.way)/\cnRs (frozenRs (typ dNote eNoteO (begDr (List.take n_2000 b)).1.disk.notes))=t_e b_7.2.disk.notes/\(begDr (List.take n_2000 b)).1.disk.safe=b_7.2.disk.safe/\cnRs (frozenRs (typ dFTx eFTxO (begDr (List.take n_2000 b)).1.way))=t_h b_7.2.way)/\(decide (b_7.1=b_7.2)=true->k_13)/\(decide (b_7.1=b_7.2)=false->false=true))/\(k_14->∃ (b_7:Opr),((begDr (List.take n_2000 b)).2.2.kind=b_7.kind/\(begDr (List.take n_2000 b)).2.2.who=b_7.who/\(begDr (List.take n_2000 b)).2.2.inn=b_7.inn/\(begDr (List.take n_2000 b)).2.2.code=b_7.code/\(begDr (List.take n_2000 b)).2.2.sec=b_7.sec/\(begDr (List.take n_2000 b)).2.2.fam=b_7.fam/\(begDr (List.take n_2000 b)).2.2.gen=b_7.gen)/\(((zi (begB b_1.1 b_1.2.1 b_1.2.2).2.1.length) != (zi (placesL b_7).length))=false->(((zi (begB b_1.1 b_1.2.1 b_1.2.2).1.way.length) != wr_ ((zi (begDr (List.take n_2000 b)).1.way.length)+i_1))=false->∃ (b_8:Front),(cnRs (frozenRs (typ dNote eNoteO (begB b_1.1 b_1.2.1 b_1.2.2).1.disk.notes))=t_e b_8.disk.notes/\(begB b_1.1 b_1.2.1 b_1.2.2).1.disk.safe=b_8.disk.safe/\cnRs (frozenRs (typ dFTx eFTxO (begB b_1.1 b_1.2.1 b_1.2.2).1.way))=t_h b_8.way)/\((!froB b_8)=true->false=true)/\((!froB b_8)=false->∃ (pre:Nat->Prop),∃ (μ:Nat->Nat),∃ (x0:Nat),((cnRs (frozenRs (typ dNote eNoteO (begDr (List.take n_2000 b)).1.disk.notes))=cnRs (frozenRs (typ dNote eNoteO (begDr (List.take n_2000 l)).1.disk.notes))/\(begDr (List.take n_2000 b)).1.disk.safe=(begDr (List.take n_2000 l)).1.disk.safe/\cnRs (frozenRs (typ dFTx eFTxO (begDr (List.take n_2000 b)).1.way))=cnRs (frozenRs (typ dFTx eFTxO (begDr (List.take n_2000 l)).1.way)))/\(begDr (List.take n_2000 b)).2.1=(begDr (List.take n_2000 l)).2.1/\((begDr (List.take n_2000 b)).2.2.kind=(begDr (List.take n_2000 l)).2.2.kind/\(begDr (List.take n_2000 b)).2.2.who=(begDr (List.take n_2000 l)).2.2.who/\(begDr (List.take n_2000 b)).2.2.inn=(begDr (List.take n_2000 l)).2.2.inn/\(begDr (List.take n_2000 b)).2.2.code=(begDr (List.take n_2000 l)).2.2.code/\(begDr (List.take n_2000 b)).2.2.sec=(begDr (List.take n_2000 l)).2.2.sec/\(begDr (List.take n_2000 b)).2.2.fam=(begDr (List.take n_2000 l)).2.2.fam/\(begDr (List.take n_2000 b)).2.2.gen=(begDr (List.take n_2000 l)).2.2.gen)/\(k_9/\k_12/\k_10)/\k_11/\q_I (placesL b_7) (placesL (begDr (List.take n_2000 l)).2.2)/\i_0=zi x0/\k_7/\k_7/\k_11/\True)/\pre x0/\(∀ (x:Nat),pre x->(decide (zi x<(zi (begB (begDr (List.take n_2000 l)).1 (begDr (List.take n_2000 l)).2.1 (begDr (List.take n_2000 l)).2.2).2.1.length))=true->(i_0<=zi x/\zi x<(zi (begB (begDr (List.take n_2000 l)).1 (begDr (List.take n_2000 l)).2.1 (begDr (List.take n_2000 l)).2.2).2.1.length))/\(i_0<=zi x/\zi x<(zi (placesL (begDr (List.take n_2000 l)).2.2).length))/\(zi x).toNat<(placesL (begDr (List.take n_2000 l)).2.2).length/\((if true=true then !((g_Msg (begB (begDr (List.take n_2000 l)).1 (begDr (List.take n_2000 l)).2.1 (begDr (List.take n_2000 l)).2.2).2.1 x).kind==i_1&&((g_Msg (begB (begDr (List.take n_2000 l)).1 (begDr (List.take n_2000 l)).2.1 (begDr (List.take n_2000 l)).2.2).2.1 x).to==g_Int (placesL (begDr (List.take n_2000 l)).2.2) x&&((g_Msg (begB (begDr (List.take n_2000 l)).1 (begDr (List.take n_2000 l)).2.1 (begDr (List.take n_2000 l)).2.2).2.1 x).frm==i_0&&((g_Msg (begB (begDr (List.take n_2000 l)).1 (begDr (List.take n_2000 l)).2.1 (begDr (List.take n_2000 l)).2.2).2.1 x).tx==(begDr (List.take n_2000 l)).2.1&&((g_Msg (begB (begDr (List.take n_2000 l)).1 (begDr (List.take n_2000 l)).2.1 (begDr (List.take n_2000 l)).2.2).2.1 x).op.kind==(begDr (List.take n_2000 l)).2.2.kind&&((g_Msg (begB (begDr (List.take n_2000 l)).1 (begDr (List.take n_2000 l)).2.1 (begDr (List.take n_2000 l)).2.2).2.1 x).op.who==(begDr (List.take n_2000 l)).2.2.who&&((g_Msg (begB (begDr (List.take n_2000 l)).1 (begDr (List.take n_2000 l)).2.1 (begDr (List.take n_2000 l)).2.2).2.1 x).op.inn==(begDr (List.take n_2000 l)).2.2.inn&&((g_Msg (begB (begDr (List.take n_2000 l)).1 (begDr (List.take n_2000 l)).2.1 (begDr (List.take n_2000 l)).2.2).2.1 x).op.code==(begDr (List.take n_2000 l)).2.2.code&&((g_Msg (begB (begDr (List.take n_2000 l)).1 (begDr (List.take n_2000 l)).2.1 (begDr (List.take n_2000 l)).2.2).2.1 x).op.sec==(begDr (List.take n_2000 l)).2.2.sec&&((g_Msg (begB (begDr (List.take n_2000 l)).1 (begDr (List.take n_2000 l)).2.1 (begDr (List.take n_2000 l)).2.2).2.1 x).op.fam==(begDr (List.take n_2000 l)).2.2.fam&&(g_Msg (begB (begDr (List.take n_2000 l)).1 (begDr (List.take n_2000 l)).2.1 (begDr (List.take n_2000 l)).2.2).2.1 x).op.gen==(begDr (List.take n_2000 l)).2.2.gen)))))))))) else (g_Msg (begB (begDr (List.take n_2000 l)).1 (begDr (List.take n_2000 l)).2.1 (begDr (List.take n_2000 l)).2.2).2.1 x).kind==i_1&&((g_Msg (begB (begDr (List.take n_2000 l)).1 (begDr (List.take n_2000 l)).2.1 (begDr (List.take n_2000 l)).2.2).2.1 x).to==g_Int (placesL (begDr (List.take n_2000 l)).2.2) x&&((g_Msg (begB (begDr (List.take n_2000 l)).1 (begDr (List.take n_2000 l)).2.1 (begDr (List.take n_2000 l)).2.2).2.1 x).frm==i_0&&((g_Msg (begB (begDr (List.take n_2000 l)).1 (begDr (List.take n_2000 l)).2.1 (begDr (List.take n_2000 l)).2.2).2.1 x).tx==(begDr (List.take n_2000 l)).2.1&&((g_Msg (begB (begDr (List.take n_2000 l)).1 (begDr (List.take n_2000 l)).2.1 (begDr (List.take n_2000 l)).2.2).2.1 x).op.kind==(begDr (List.take n_2000 l)).2.2.kind&&((g_Msg (begB (begDr (List.take n_2000 l)).1 (begDr (List.take n_2000 l)).2.1 (begDr (List.take n_2000 l)).2.2).2.1 x).op.who==(begDr (List.take n_2000 l)).2.2.who&&((g_Msg (begB (begDr (List.take n_2000 l)).1 (begDr (List.take n_2000 l)).2.1 (begDr (List.take n_2000 l)).2.2).2.1 x).op.inn==(begDr (List.take n_2000 l)).2.2.inn&&((g_Msg (begB (begDr (List.take n_2000 l)).1 (begDr (List.take n_2000 l)).2.1 (begDr (List.take n_2000 l)).2.2).2.1 x).op.code==(begDr (List.take n_2000 l)).2.2.code&&((g_Msg (begB (begDr (List.take n_2000 l)).1 (begDr (List.take n_2000 l)).2.1 (begDr (List.take n_2000 l)).2.2).2.1 x).op.sec==(begDr (List.take n_2000 l)).2.2.sec&&((g_Msg (begB (begDr (List.take n_2000 l)).1 (begDr (List.take n_2000 l)).2.1 (begDr (List.take n_2000 l)).2.2).2.1 x).op.fam==(begDr (List.take n_2000 l)).2.2.fam&&(g_Msg (begB (begDr (List.take n_2000 l)).1 (begDr (List.take n_2000 l)).2.1 (begDr (List.take n_2000 l)).2.2).2.1 x).op.gen==(begDr (List.take n_2000 l)).2.2.gen))))))))))=true->false=true)/\((if true=true then !((g_Msg (begB (begDr (List.take n_2000 l)).1 (begDr (List.take n_2000 l)).2.1 (begDr (List.take n_2000 l)).2.2).2.1 x).kind==i_1&&((g_Msg (begB (begDr (List.take n_2000 l)).1 (begDr (List.take n_2000 l)).2.1 (begDr (List.take n_2000 l)).2.2).2.1 x).to==g_Int (placesL (begDr (List.take n_2000 l)).2.2) x&&((g_Msg (begB (begDr (List.take n_2000 l)).1 (begDr (List.take n_2000 l)).2.1 (begDr (List.take n_2000 l)).2.2).2.1 x).frm==i_0&&((g_Msg (begB (begDr (List.take n_2000 l)).1 (begDr (List.take n_2000 l)).2.1 (begDr (List.take n_2000 l)).2.2).2.1 x).tx==(begDr (List.take n_2000 l)).2.1&&((g_Msg (begB (begDr (List.take n_2000 l)).1 (begDr (List.take n_2000 l)).2.1 (begDr (List.take n_2000 l)).2.2).2.1 x).op.kind==(begDr (List.take n_2000 l)).2.2.kind&&((g_Msg (begB (begDr (List.take n_2000 l)).1 (begDr (List.take n_2000 l)).2.1 (begDr (List.take n_2000 l)).2.2).2.1 x).op.who==(begDr (List.take n_2000 l)).2.2.who&&((g_Msg (begB (begDr (List.take n_2000 l)).1 (begDr (List.take n_2000 l)).2.1 (begDr (List.take n_2000 l)).2.2).2.1 x).op.inn==(begDr (List.take n_2000 l)).2.2.inn&&((g_Msg (begB (begDr (List.take n_2000 l)).1 (begDr (List.take n_2000 l)).2.1 (begDr (List.take n_2000 l)).2.2).2.1 x).op.code==(begDr (List.take n_2000 l)).2.2.code&&((g_Msg (begB (begDr (List.take n_2000 l)).1 (begDr (List.take n_2000 l)).2.1 (begDr (List.take n_2000 l)).2.2).2.1 x).op.sec==(begDr (List.take n_2000 l)).2.2.sec&&((g_Msg (begB (begDr (List.take n_2000 l)).1 (begDr (List.take n_2000 l)).2.1 (begDr (List.take n_2000 l)).2.2).2.1 x).op.fam==(begDr (List.take n_2000 l)).2.2.fam&&(g_Msg (begB (begDr (List.take n_2000 l)).1 (begDr (List.take n_2000 l)).2.1 (begDr (List.take n_2000 l)).2.2).2.1 x).op.gen==(begDr (List.take n_2000 l)).2.2.gen)))))))))) else (g_Msg (begB (begDr (List.take n_2000 l)).1 (begDr (List.take n_2000 l)).2.1 (begDr (List.take n_2000 l)).2.2).2.1 x).kind==i_1&&((g_Msg (begB (begDr (List.take n_2000 l)).1 (begDr (List.take n_2000 l)).2.1 (begDr (List.take n_2000 l)).2.2).2.1 x).to==g_Int (placesL (begDr (List.take n_2000 l)).2.2) x&&((g_Msg (begB (begDr (List.take n_2000 l)).1 (begDr (List.take n_2000 l)).2.1 (begDr (List.take n_2000 l)).2.2).2.1 x).frm==i_0&&((g_Msg (begB (begDr (List.take n_2000 l)).1 (begDr (List.take n_2000 l)).2.1 (begDr (List.take n_2000 l)).2.2).2.1 x).tx==(begDr (List.take n_2000 l)).2.1&&((g_Msg (begB (begDr (List.take n_2000 l)).1 (begDr (List.take n_2000 l)).2.1 (begDr (List.take n_2000 l)).2.2).2.1 x).op.kind==(begDr (List.take n_2000 l)).2.2.kind&&((g_Msg (begB (begDr (List.take n_2000 l)).1 (begDr (List.take n_2000 l)).2.1 (begDr (List.take n_2000 l)).2.2).2.1 x).op.who==(begDr (List.take n_2000 l)).2.2.who&&((g_Msg (begB (begDr (List.take n_2000 l)).1 (begDr (List.take n_2000 l)).2.1 (begDr (List.take n_2000 l)).2.2).2.1 x).op.inn==(begDr (List.take n_2000 l)).2.2.inn&&((g_Msg (begB (begDr (List.take n_2000 l)).1 (begDr (List.take n_2000 l)).2.1 (begDr (List.take n_2000 l)).2.2).2.1 x).op.code==(begDr (List.take n_2000 l)).2.2.code&&((g_Msg (begB (begDr (List.take n_2000 l)).1 (begDr (List.take n_2000 l)).2.1 (begDr (List.take n_2000 l)).2.2).2.1 x).op.sec==(begDr (List.take n_2000 l)).2.2.sec&&((g_Msg (begB (begDr (List.take n_2000 l)).1 (begDr (List.take n_2000 l)).2.1 (begDr (List.take n_2000 l)).2.2).2.1 x).op.fam==(begDr (List.take n_2000 l)).2.2.fam&&(g_Msg (begB (begDr (List.take n_2000 l)).1 (begDr (List.take n_2000 l)).2.1 (begDr (List.take n_2000 l)).2.2).2.1 x).op.gen==(begDr (List.take n_2000 l)).2.2.gen))))))))))=false->∃ (y:Nat),((cnRs (frozenRs (typ dNote eNoteO (begDr (List.take n_2000 l)).1.disk.notes))=cnRs (frozenRs (typ dNote eNoteO (begDr (List.take n_2000 l)).1.disk.notes))/\(begDr (List.take n_2000 l)).1.disk.safe=(begDr (List.take n_2000 l)).1.disk.safe/\cnRs (frozenRs (typ dFTx eFTxO (begDr (List.take n_2000 l)).1.way))=cnRs (frozenRs (typ dFTx eFTxO (begDr (List.take n_2000 l)).1.way)))/\(begDr (List.take n_2000 l)).2.1=(begDr (List.take n_2000 l)).2.1/\((begDr (List.take n_2000 l)).2.2.kind=(begDr (List.take n_2000 l)).2.2.kind/\(begDr (List.take n_2000 l)).2.2.who=(begDr (List.take n_2000 l)).2.2.who/\(begDr (List.take n_2000 l)).2.2.inn=(begDr (List.take n_2000 l)).2.2.inn/\(begDr (List.take n_2000 l)).2.2.code=(begDr (List.take n_2000 l)).2.2.code/\(begDr (List.take n_2000 l)).2.2.sec=(begDr (List.take n_2000 l)).2.2.sec/\(begDr (List.take n_2000 l)).2.2.fam=(begDr (List.take n_2000 l)).2.2.fam/\(begDr (List.take n_2000 l)).2.2.gen=(begDr (List.take n_2000 l)).2.2.gen)/\(k_2/\k_5/\k_3)/\k_4/\q_I (placesL (begDr (List.take n_2000 l)).2.2) (placesL (begDr (List.take n_2000 l)).2.2)/\wr_ ((zi x)+i_1)=zi y/\k_1/\k_1/\k_4/\True)/\pre y/\μ y<μ x))/\(decide (zi x<(zi (begB (begDr (List.take n_2000 l)).1 (begDr (List.take n_2000 l)).2.1 (begDr (List.take n_2000 l)).2.2).2.1.length))=false->∃ (b:Front×Int×Opr),((cnRs (frozenRs (typ dNote eNoteO (begB (begDr (List.take n_2000 l)).1 (begDr (List.take n_2000 l)).2.1 (begDr (List.take n_2000 l)).2.2).1.disk.notes))=t_e b.1.disk.notes/\(begB (begDr (List.take n_2000 l)).1 (begDr (List.take n_2000 l)).2.1 (begDr (List.take n_2000 l)).2.2).1.disk.safe=b.1.disk.safe/\cnRs (frozenRs (typ dFTx eFTxO (begB (begDr (List.take n_2000 l)).1 (begDr (List.take n_2000 l)).2.1 (begDr (List.take n_2000 l)).2.2).1.way))=t_h b.1.way)/\(begDr (List.take n_2000 l)).2.1=b.2.1/\(begDr (List.take n_2000 l)).2.2.kind=b.2.2.kind/\(begDr (List.take n_2000 l)).2.2.who=b.2.2.who/\(begDr (List.take n_2000 l)).2.2.inn=b.2.2.inn/\(begDr (List.take n_2000 l)).2.2.code=b.2.2.code/\(begDr (List.take n_2000 l)).2.2.sec=b.2.2.sec/\(begDr (List.take n_2000 l)).2.2.fam=b.2.2.fam/\(begDr (List.take n_2000 l)).2.2.gen=b.2.2.gen)/\((!(begB b.1 b.2.1 b.2.2).2.2)=true->(i_0<=(zi (begDr (List.take n_2000 l)).1.way.length)/\(zi (begDr (List.take n_2000 l)).1.way.length)<(zi (begB (begDr (List.take n_2000 l)).1 (begDr (List.take n_2000 l)).2.1 (begDr (List.take n_2000 l)).2.2).1.way.length))/\((g_FTx (begB (begDr (List.take n_2000 l)).1 (begDr (List.take n_2000 l)).2.1 (begDr (List.take n_2000 l)).2.2).1.way (begDr (List.take n_2000 l)).1.way.length).tx==(begDr (List.take n_2000 l)).2.1)=true)/\((!(begB b.1 b.2.1 b.2.2).2.2)=false->false=true)))))/\(((zi (begB b_1.1 b_1.2.1 b_1.2.2).1.way.length) != wr_ ((zi (begDr (List.take n_2000 b)).1.way.length)+i_1))=true->false=true))/\(((zi (begB b_1.1 b_1.2.1 b_1.2.2).2.1.length) != (zi (placesL b_7).length))=true->false=true))))/\(decide ((begDr (List.take n_2000 b)).2.1>i_29)=true->k_8))/\(decide ((begDr (List.take n_2000 b)).2.1<i_0)=true->k_8))/\((!froB b_5)=true->k_8)))/\((!decide (b_4.1=b_4.2))=true->false=true))/\((!decide (b_3.1=b_3.2))=true->false=true))))))=_ by kernel_rfl) ?_
 delta i_0 i_1 wr_ g_Int zi t_I q_I t_U q_U n_2000 i_29 t_e t_g g_FTx t_h g_Msg i_1048576 y_32
 simp (config:={ maxSteps:=2000000 }) only [zza,zzb,true_and,and_true,and_self,ne_eq,cI_app,cWrtO_app,cWrtS_app,cWrtO_1,cItemO_1,opr_ex,zcast,frz_nil,nil_map,wayEq_self,Option.getD_none,Option.getD_some,if_true]
 intro _
 refine ⟨hpre,?_⟩
 generalize (begDr (List.take 2000 l)).1=f
 generalize (begDr (List.take 2000 l)).2.1=tx
 generalize (begDr (List.take 2000 l)).2.2=o
 refine ⟨fun _=>⟨fun _=>⟨fun h=>by simp at h,fun _=>?_⟩,fun h=>by simp at h⟩,fun h=>by simp at h⟩
 rcases Bool.eq_false_or_eq_true (froB f&&inR tx 0 29&&opOk o) with hv | hv
 rotate_left
 ·have e:begB f tx o=(⟨⟨[],0⟩,[]⟩,[],false):=by simp only [begB,hv];rfl
  have hbad:froB f=true->¬ tx<0->¬ 29<tx->opOk o=true->False:=fun h1 h2 h3 h4=>by
   have:inR tx 0 29=true:=by simp only [inR,Bool.and_eq_true,decide_eq_true_eq];omega
   rw [h1,this,h4] at hv;simp at hv
  simp only [e]
  refine ⟨fun h1=>⟨fun h2=>⟨fun h3=>⟨fun h4=>?_,fun h4=>(hbad (by simpa using h1) h2 h3 (by simpa using h4)).elim⟩,fun h3=>?_⟩,fun h2=>?_⟩,fun h1=>?_⟩
  all_goals exact ⟨fun _=>⟨fun _=>⟨fun _=>⟨(),trivial⟩,fun h=>by simp at h⟩,fun h=>by simp at h⟩,fun h=>by simp at h⟩
 simp only [Bool.and_eq_true] at hv
 obtain ⟨⟨h1,h2⟩,h3⟩:=hv
 have hf:=froB_iff.1 h1
 have ht:0<=tx/\tx<=29:=by simpa [inR] using h2
 have e:begB f tx o=beginF f tx o:=by simp only [begB,h1,h2,h3,Bool.and_self,if_true]
 have hX:=begin_ok hf ht h3
 simp only [e]
 refine ⟨fun _=>⟨fun _=>⟨fun _=>⟨fun h=>by rw [h3] at h;simp at h,fun _=>?_⟩,fun h=>by omega⟩,fun h=>by omega⟩,fun h=>by rw [h1] at h;simp at h⟩
 by_cases hb:noBegin f tx
 ·have e2:beginF f tx o=(f,[],false):=by rw [beginF,if_pos hb]
  simp only [e2]
  exact ⟨fun _=>⟨fun _=>rfl,fun h=>absurd trivial h⟩,fun h=>by simp at h⟩
 ·have e2:=begin_new (o:=o) hb
  replace hX:okF ⟨f.disk,f.way++[⟨tx,o,false,[],[]⟩]⟩:=by rw [e2] at hX;exact hX
  have hw:=hX.wl
  simp only [List.length_append,List.length_singleton] at hw
  have h3l:=places_len3 o
  have again:(begB ⟨f.disk,f.way++[⟨tx,o,false,[],[]⟩]⟩ tx o).2.2=false:=by
   have hn:noBegin ⟨f.disk,f.way++[⟨tx,o,false,[],[]⟩]⟩ tx:=.inl (by rw [at_last hX];omega)
   simp only [begB]
   split
   ·rw [beginF,if_pos hn]
   ·rfl
  simp only [e2]
  refine ⟨fun h=>by simp at h,fun _=>⟨fun _=>⟨fun _=>⟨fun h=>by rw [froB_iff.2 hX] at h;simp at h,fun _=>?_⟩,fun h=>?_⟩,fun h=>?_⟩⟩
  ·refine ⟨fun i=>i<=(placesL o).length,by simp,fun i=>(placesL o).length-i,fun i hi=>⟨fun hlt=>?_,fun _=>⟨fun _=>?_,fun h=>by rw [again] at h;simp at h⟩⟩⟩
   ·have hl:i<(placesL o).length:=by rw [sendF_len] at hlt;omega
    have hg:(sendF 1 tx o (placesL o)).getD i dMsg=⟨1,(placesL o).getD i 0,0,tx,o⟩:=by simp [sendF,List.getD,hl]
    rw [hg]
    exact ⟨by omega,hlt,by omega,by omega,hl,fun h=>by simp at h,fun _=>⟨i+1,wrapN (by omega),by simp only;omega,by simp only;omega⟩⟩
   ·exact ⟨by omega,by simp;omega,by rw [getD_last]⟩
  ·exact absurd (by rw [IntWalk.i64_in _ (by omega)];simp) h
  ·exact absurd (sendF_len _ _ _ _) h
end Go.Proofs.AI
