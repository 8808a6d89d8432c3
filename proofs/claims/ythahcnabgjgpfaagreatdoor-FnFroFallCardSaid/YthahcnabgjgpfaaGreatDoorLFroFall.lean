/- What the function of this law does, in data. Conditions: none. -/
import Derived.KernelRfl
import Derived.IntWalk
import Derived.Test.YthahcnabgjgpfaaGreatDoorProg
import Derived.Test.YthahcnabgjgpfaaGreatDoorK04
namespace Go.Proofs.AI
open Go.RowKit
set_option linter.unusedVariables false
set_option linter.unusedSimpArgs false
theorem wayEq_self (p:Way):wayEq p p↔True:=⟨fun _=>trivial,fun _=>rfl⟩
end Go.Proofs.AI
namespace Go.Proofs.AI
open Go.RowKit Go.Proofs
set_option linter.unusedVariables false
set_option linter.unusedSimpArgs false
set_option maxRecDepth 100000
theorem ext_getD {α:Type} {xs ys:List α} {d:α} (hl:xs.length=ys.length) (h:∀ j,j<xs.length->xs.getD j d=ys.getD j d):xs=ys:=by
 refine List.ext_getElem hl fun j h1 h2=>?_
 have:=h j h1
 rwa [getD_lt h1,getD_lt h2] at this
theorem Disk_ext {a b:Disk} (h0:a.notes=b.notes) (h1:a.safe=b.safe):a=b:=by cases a;cases b;simp_all
theorem Front_ext {a b:Front} (h0:a.disk=b.disk) (h1:a.way=b.way):a=b:=by cases a;cases b;simp_all
abbrev y_30:Type:=List Wrt×List Wrt
abbrev y_31:Type:=List Note×List Note
abbrev y_34:Type:=Nat×Bool×Bool×Nat
end Go.Proofs.AI
namespace Go.Proofs.AI
open Go.RowKit Go.Proofs
set_option linter.unusedVariables false
set_option linter.unusedSimpArgs false
set_option maxRecDepth 100000
theorem laws_jaInts_ok (xs:List Int) (ys:List Int):FunOK Tryz.prog 90 2 [] [(0,k1 (sI xs)),(1,k1 (sI ys))] (·=[(2,kB (decide (xs=ys)))]):=by
 refine fun_to (E:=⟨tab,ctOf [],26,[],[(0,[0,1]),(1,[0,1,10]),(2,[4]),(3,[0,1,5]),(4,[0,1,5,14]),(5,[0,1,5]),(6,[0,1,5,25]),(7,[4]),(8,[4])],[(0,⟨Nat,fun x=>[(0,(k1 (.sh 3 (typ (0:Int) eI xs)))),(1,(k1 (.sh 3 (typ (0:Int) eI ys)))),(5,(k1 (.n .i64 (x:Int))))]⟩)],[],[],[]⟩) tab_ok mixed Tryz.func90 rfl Tryz.ntmps90 (rvs:=[.tmp 4]) Tryz.results90 rfl fun hl=>?_
 refine cast (show ((((zi xs.length) != zi ys.length)=true->false=decide (xs=ys))/\(((zi xs.length) != zi ys.length)=false->∃ (pre:Nat->Prop),∃ (μ:Nat->Nat),∃ (x0:Nat),(q_I xs xs/\q_I ys ys/\i_0=zi x0)/\pre x0/\∀ (x:Nat),pre x->(decide (zi x<zi xs.length)=true->(i_0<=zi x/\zi x<zi xs.length)/\(i_0<=zi x/\zi x<zi ys.length)/\((g_Int xs x != g_Int ys x)=true->false=decide (xs=ys))/\((g_Int xs x != g_Int ys x)=false->∃ (y:Nat),(q_I xs xs/\q_I ys ys/\wr_ ((zi x)+i_1)=zi y)/\pre y/\μ y<μ x))/\(decide (zi x<zi xs.length)=false->true=decide (xs=ys))))=_ by kernel_rfl) ?_
 delta i_0 i_1 wr_ g_Int zi t_I q_I
 have hx:xs.length<=9223372036854775807:=hl.1 _ (List.mem_singleton.2 rfl)
 refine ⟨fun h=>?_,fun h=>⟨fun i=>i<=xs.length/\∀ j,j<i->xs.getD j 0=ys.getD j 0,fun i=>xs.length-i,0,by simp,by simp,fun x hp=>?_⟩⟩
 ·simp only [bne_iff_ne,ne_eq] at h
  exact (decide_eq_false fun he=>h (by rw [he])).symm
 ·have hlen:xs.length=ys.length:=by
                      have:(xs.length:Int)=ys.length:=by simpa [bne] using h
                      omega
  obtain ⟨h1,h2⟩:=hp
  refine ⟨fun hlt=>?_,fun hge=>?_⟩
  ·have hlt:x<xs.length:=by simpa using hlt
   refine ⟨⟨by omega,by omega⟩,⟨by omega,by omega⟩,fun he=>?_,fun he=>⟨x+1,⟨rfl,rfl,wrapN (by omega)⟩,⟨by omega,below_succ h2 ?_⟩,muN hlt⟩⟩
   ·simp only [Int.toNat_natCast,bne_iff_ne,ne_eq] at he
    exact (decide_eq_false fun h=>he (by rw [h])).symm
   ·simpa [bne] using he
  ·have:x=xs.length:=by simp at hge;omega
   subst this
   exact (decide_eq_true (ext_getD hlen h2)).symm
def laws_jaInts_c:Con Tryz.prog:=con0 [.lend,.lend] fun b:List Int×List Int=>laws_jaInts_ok (b.1) (b.2)
end Go.Proofs.AI
namespace Go.Proofs.AI
open Go.RowKit Go.Proofs
set_option linter.unusedVariables false
set_option linter.unusedSimpArgs false
set_option maxRecDepth 100000
theorem slices_Clone_int_ok (vs:List Int) (hpre:0<vs.length/\vs.length<=1000):FunOK Tryz.prog 117 1 [] [(0,k1 (sI vs))] (·=[(1,k1 (oI vs))]):=by
 refine fun_to (E:=⟨tab,ctOf [],8,[],[(0,[0,5,6,7]),(1,[0,4,5,6,7]),(2,[0,2,5,6,7]),(3,[0,2,5,6,7])],[],[],[],[]⟩) tab_ok mixed Tryz.func117 rfl Tryz.ntmps117 (rvs:=[.tmp 2]) Tryz.results117 rfl fun hl=>?_
 refine cast (show (n_0<vs.length/\((if false=true then true else false)=true->vs.length=n_0)/\((if false=true then true else false)=false->(n_0+vs.length)*n_8<=n_140737488355328/\cnRs (appR (raw []) (typ i_0 eI vs))=t_I vs))=_ by kernel_rfl) ?_
 delta i_0 t_I n_0 n_8 n_140737488355328
 simp only [zza,true_and,and_true,and_self,ne_eq,cI_app,cWrtO_app,cWrtS_app,cWrtO_1,cItemO_1,opr_ex,zcast,frz_nil,nil_map]
 refine ⟨hpre.1,fun h=>by simp at h,fun _=>⟨by omega,?_⟩⟩
 simp [cI]
theorem eqB_iff' {a b:ByteArray}:eqB a b=true↔a=b:=by
 simp only [eqB,beq_iff_eq,ByteArray.toList_eq,Array.toList_inj]
 exact ⟨fun h=>ByteArray.ext h,fun h=>by rw [h]⟩
end Go.Proofs.AI
namespace Go.Proofs.AI
open Go.RowKit Go.Proofs
set_option linter.unusedVariables false
set_option linter.unusedSimpArgs false
set_option maxRecDepth 100000
theorem tl_eq {a b:ByteArray}:(a.toList==b.toList)=decide (a=b):=by
 rw [Bool.eq_iff_iff,decide_eq_true_eq]
 exact eqB_iff' (a:=a) (b:=b)
theorem len_ne {m n:Nat} (h:((m:Int) != (n:Int))=false):m=n:=by
 simp [bne] at h;omega
end Go.Proofs.AI
namespace Go.Proofs.AI
open Go.RowKit Go.Proofs
set_option linter.unusedVariables false
set_option linter.unusedSimpArgs false
set_option maxRecDepth 100000
theorem wrt_ext {a b:Wrt} (h1:a.key=b.key) (h2:a.del=b.del) (h3:a.val=b.val):a=b:=by cases a;cases b;simp_all
theorem laws_jaTexts_ok (a:List ByteArray) (b:List ByteArray):FunOK Tryz.prog 170 2 [] [(0,k1 (sS a)),(1,k1 (sS b))] (·=[(2,kB (decide (a=b)))]):=by
 refine fun_to (E:=⟨tab,ctOf [],26,[],[(0,[0,1]),(1,[0,1,10]),(2,[4]),(3,[0,1,5]),(4,[0,1,5,14]),(5,[0,1,5]),(6,[0,1,5,25]),(7,[4]),(8,[4])],[(0,⟨Nat,fun x=>[(0,(k1 (.sh 9 (typ ByteArray.empty eS a)))),(1,(k1 (.sh 9 (typ ByteArray.empty eS b)))),(5,(k1 (.n .i64 (x:Int))))]⟩)],[],[],[]⟩) tab_ok mixed Tryz.func170 rfl Tryz.ntmps170 (rvs:=[.tmp 4]) Tryz.results170 rfl fun hl=>?_
 refine cast (show ((((zi a.length) != zi b.length)=true->false=decide (a=b))/\(((zi a.length) != zi b.length)=false->∃ (pre:Nat->Prop),∃ (μ:Nat->Nat),∃ (x0:Nat),(q_S a a/\q_S b b/\i_0=zi x0)/\pre x0/\∀ (x:Nat),pre x->(decide (zi x<zi a.length)=true->(i_0<=zi x/\zi x<zi a.length)/\(i_0<=zi x/\zi x<zi b.length)/\((!(g_ByteArray a x).toList==(g_ByteArray b x).toList)=true->false=decide (a=b))/\((!(g_ByteArray a x).toList==(g_ByteArray b x).toList)=false->∃ (y:Nat),(q_S a a/\q_S b b/\wr_ ((zi x)+i_1)=zi y)/\pre y/\μ y<μ x))/\(decide (zi x<zi a.length)=false->true=decide (a=b))))=_ by kernel_rfl) ?_
 delta i_0 i_1 wr_ zi t_S q_S g_ByteArray
 have hx:a.length<=9223372036854775807:=hl.1 _ (List.mem_singleton.2 rfl)
 simp only [zza,true_and,and_true,and_self,ne_eq,cI_app,cWrtO_app,cWrtS_app,cWrtO_1,cItemO_1,opr_ex,zcast,frz_nil,nil_map]
 refine ⟨fun h=>?_,fun h=>?_⟩
 ·exact (decide_eq_false fun he=>h (by rw [he])).symm
 have hlen:=len_ne h
 refine ⟨fun i=>i<=a.length/\∀ j,j<i->a.getD j ByteArray.empty=b.getD j ByteArray.empty,⟨by omega,fun j hj=>absurd hj (Nat.not_lt_zero _)⟩,fun i=>a.length-i,fun i hp=>?_⟩
 obtain ⟨h1,h2⟩:=hp
 refine ⟨fun hlt=>⟨by omega,hlt,by omega,by omega,fun e=>?_,fun e=>⟨i+1,wrapN (by omega),⟨by omega,below_succ h2 ?_⟩,by simp only;omega⟩⟩,fun hge=>?_⟩
 ·rw [tl_eq] at e
  have e:¬ a.getD i ByteArray.empty=b.getD i ByteArray.empty:=by simpa using e
  exact (decide_eq_false fun he=>e (by rw [he])).symm
 ·rw [tl_eq] at e
  simpa using e
 ·exact (decide_eq_true (ext_getD (d:=ByteArray.empty) hlen fun j hj=>h2 j (by omega))).symm
def laws_jaTexts_c:Con Tryz.prog:=con0 [.lend,.lend] fun b:List ByteArray×List ByteArray=>laws_jaTexts_ok (b.1) (b.2)
theorem laws_jaWrites_ok (a:List Wrt) (b:List Wrt):FunOK Tryz.prog 171 2 [] [(0,k1 (sWrts a)),(1,k1 (sWrts b))] (·=[(2,kB (decide (a=b)))]):=by
 refine fun_to (E:=⟨tab,ctOf [laws_jaInts_c],55,[],[(0,[0,1]),(1,[0,1,10]),(2,[4]),(3,[0,1,5]),(4,[0,1,5,14]),(5,[0,1,5]),(6,[0,1,5,54]),(7,[4]),(8,[4])],[(0,⟨Nat,fun x=>[(0,(k1 (.sh 94 (typ dWrt eWrtS a)))),(1,(k1 (.sh 94 (typ dWrt eWrtS b)))),(5,(k1 (.n .i64 (x:Int))))]⟩)],[],[],[]⟩) tab_ok mixed Tryz.func171 rfl Tryz.ntmps171 (rvs:=[.tmp 4]) Tryz.results171 rfl fun hl=>?_
 refine cast (show ((((zi a.length) != zi b.length)=true->false=decide (a=b))/\(((zi a.length) != zi b.length)=false->∃ (pre:Nat->Prop),∃ (μ:Nat->Nat),∃ (x0:Nat),(q_c a a/\q_c b b/\i_0=zi x0)/\pre x0/\(∀ (x:Nat),let k_2:Prop:=i_0<=zi x/\zi x<zi a.length;let k_1:Prop:=i_0<=zi x/\zi x<zi b.length;pre x->(decide (zi x<zi a.length)=true->k_2/\k_1/\((!(g_Wrt a x).key.toList==(g_Wrt b x).key.toList)=false->k_2/\k_1/\((if true=true then !(g_Wrt a x).del==(g_Wrt b x).del else (g_Wrt a x).del==(g_Wrt b x).del)=false->k_2/\k_1/\(∃ (b_1:y_10),(q_I (g_Wrt a x).val b_1.1/\q_I (g_Wrt b x).val b_1.2)/\((!decide (b_1.1=b_1.2))=true->false=decide (a=b))/\((!decide (b_1.1=b_1.2))=false->∃ (y:Nat),(q_c a a/\q_c b b/\wr_ ((zi x)+i_1)=zi y)/\pre y/\μ y<μ x)))/\((if true=true then !(g_Wrt a x).del==(g_Wrt b x).del else (g_Wrt a x).del==(g_Wrt b x).del)=true->false=decide (a=b)))/\((!(g_Wrt a x).key.toList==(g_Wrt b x).key.toList)=true->false=decide (a=b)))/\(decide (zi x<zi a.length)=false->true=decide (a=b)))))=_ by kernel_rfl) ?_
 delta i_0 i_1 wr_ zi t_I q_I g_Wrt t_c q_c y_10
 have hx:a.length<=9223372036854775807:=hl.1 _ (List.mem_singleton.2 rfl)
 simp only [zza,true_and,and_true,and_self,ne_eq,cI_app,cWrtO_app,cWrtS_app,cWrtO_1,cItemO_1,opr_ex,zcast,frz_nil,nil_map]
 refine ⟨fun h=>?_,fun h=>?_⟩
 ·exact (decide_eq_false fun he=>h (by rw [he])).symm
 have hlen:=len_ne h
 simp only [i1,if_true]
 refine ⟨fun i=>i<=a.length/\∀ j,j<i->a.getD j dWrt=b.getD j dWrt,⟨by omega,fun j hj=>absurd hj (Nat.not_lt_zero _)⟩,fun i=>a.length-i,fun i hp=>?_⟩
 obtain ⟨h1,h2⟩:=hp
 refine ⟨fun hlt=>⟨by omega,hlt,by omega,by omega,fun e1=>⟨by omega,hlt,by omega,by omega,fun e2=>⟨by omega,hlt,by omega,by omega,fun e3=>?_,fun e3=>⟨i+1,wrapN (by omega),⟨by omega,below_succ h2 ?_⟩,by simp only;omega⟩⟩,fun e2=>?_⟩,fun e1=>?_⟩,fun hge=>?_⟩
 ·have e:¬ (a.getD i dWrt).val=(b.getD i dWrt).val:=by simpa using e3
  exact (decide_eq_false fun he=>e (by rw [he])).symm
 ·rw [tl_eq] at e1
  exact wrt_ext (by simpa using e1) (by simpa using e2) (by simpa using e3)
 ·have e:¬ (a.getD i dWrt).del=(b.getD i dWrt).del:=by simpa using e2
  exact (decide_eq_false fun he=>e (by rw [he])).symm
 ·rw [tl_eq] at e1
  have e:¬ (a.getD i dWrt).key=(b.getD i dWrt).key:=by simpa using e1
  exact (decide_eq_false fun he=>e (by rw [he])).symm
 ·exact (decide_eq_true (ext_getD (d:=dWrt) hlen fun j hj=>h2 j (by omega))).symm
def laws_jaWrites_c:Con Tryz.prog:=con0 [.lend,.lend] fun b:List Wrt×List Wrt=>laws_jaWrites_ok (b.1) (b.2)
end Go.Proofs.AI
namespace Go.Proofs.AI
open Go.RowKit Go.Proofs
set_option linter.unusedVariables false
set_option linter.unusedSimpArgs false
theorem FunOK.sh0 {P:Program} {f:FuncId} {post:L->Prop} {e:TypeId} {es:Rows CV} (h0:es.n=0)
  (h:∀ (A:Option Addr) (c:Nat),FunOK P f 1 [] [(0,⟨.one,[.c (.vl (.slice A 0 c))],[]⟩)] post):FunOK P f 1 [] [(0,⟨.one,[.c (.sh e es)],[]⟩)] post:=by
 intro F0 I0 args w hs ⟨I,U,B,F,hr⟩
 obtain ⟨k1,hroot,⟨N,n1,n2,n3⟩,k4⟩:=hr.key 0 ⟨.one,[.c (.sh e es)],[]⟩ (by simp [mk,up])
 have hrep:Rep P w I (.sh e es) (U 0 0) (N 0):=n1 0 _ rfl
 obtain ⟨A,c,us,hv,_⟩:=hrep.sh_inv
 rw [h0] at hv
 refine h A c F0 I0 args w hs ⟨I,U,B,F,{ hr with key:=fun t K hK=>?_,may:=fun t b hb=>?_ }⟩
 ·simp only [mk,up] at hK
  split at hK
  ·rename_i ht
   subst ht;cases hK
   refine ⟨k1,hroot.any rfl rfl,⟨N,fun o x hx=>?_,n2,fun o b hb=>⟨(n3 o b hb).1,fun q=>by cases q.1⟩⟩,fun b hb=>by cases hb.1⟩
   cases o with
   | zero =>
    simp at hx;subst hx
    show Rep P w I (.vl (.slice A 0 c)) (U 0 0) (N 0)
    rw [hv];exact .vl rfl
   | succ o=>simp at hx
  ·cases hK
 ·rcases hr.may t b hb with h1 | h1 | ⟨K,h1,h2,_⟩
  ·exact .inl h1
  ·exact .inr (.inl h1)
  ·simp only [mk,up] at h1
   split at h1
   ·cases h1;cases h2.1
   ·cases h1
end Go.Proofs.AI
namespace Go.Proofs.AI
open Go.RowKit Go.Proofs
set_option linter.unusedVariables false
set_option linter.unusedSimpArgs false
set_option maxRecDepth 100000
theorem CloneSz_ok (A:Option Addr) (q:Nat):FunOK Tryz.prog 172 1 [] [(0,k1 (.vl (.slice A 0 q)))] (·=[(1,k1 (oS []))]):=by
 refine fun_to (E:=⟨tab,ctOf [],8,[],[(0,[0,5,6,7]),(1,[0,4,5,6,7]),(2,[0,2,5,6,7]),(3,[0,2,5,6,7])],[],[],[],[]⟩) tab_ok mixed Tryz.func172 rfl Tryz.ntmps172 (rvs:=[.tmp 2]) Tryz.results172 rfl fun hl=>?_
 refine cast (show (True/\((if false=true then !A.isNone else A.isNone)=true->n_0=n_0)/\((if false=true then !A.isNone else A.isNone)=false->(n_0+n_0)*n_16<=n_140737488355328/\cnRs (appR (raw []) nilR)=t_S []))=_ by kernel_rfl) ?_
 delta n_0 n_140737488355328 t_S n_16
 simp only [zza,zzb,true_and,and_true,and_self,ne_eq,cI_app,cWrtO_app,cWrtS_app,cWrtO_1,cItemO_1,opr_ex,zcast,frz_nil,nil_map,Option.getD_none,Option.getD_some]
 cases A<;>simp
theorem CloneSp_ok (xs:List ByteArray) (hpre:0<xs.length/\xs.length<=1000):FunOK Tryz.prog 172 1 [] [(0,k1 (sS xs))] (·=[(1,k1 (oS xs))]):=by
 refine fun_to (E:=⟨tab,ctOf [],8,[],[(0,[0,5,6,7]),(1,[0,4,5,6,7]),(2,[0,2,5,6,7]),(3,[0,2,5,6,7])],[],[],[],[]⟩) tab_ok mixed Tryz.func172 rfl Tryz.ntmps172 (rvs:=[.tmp 2]) Tryz.results172 rfl fun hl=>?_
 refine cast (show (n_0<xs.length/\((if false=true then true else false)=true->xs.length=n_0)/\((if false=true then true else false)=false->(n_0+xs.length)*n_16<=n_140737488355328/\cnRs (appR (raw []) (typ ByteArray.empty eS xs))=t_S xs))=_ by kernel_rfl) ?_
 delta n_0 n_140737488355328 t_S n_16
 simp only [zza,zzb,true_and,and_true,and_self,ne_eq,cI_app,cWrtO_app,cWrtS_app,cWrtO_1,cItemO_1,opr_ex,zcast,frz_nil,nil_map,Option.getD_none,Option.getD_some]
 refine ⟨hpre.1,fun h=>by simp at h,fun _=>⟨by omega,?_⟩⟩
 simp
theorem CloneIz_ok (A:Option Addr) (q:Nat):FunOK Tryz.prog 117 1 [] [(0,k1 (.vl (.slice A 0 q)))] (·=[(1,k1 (oI []))]):=by
 refine fun_to (E:=⟨tab,ctOf [],8,[],[(0,[0,5,6,7]),(1,[0,4,5,6,7]),(2,[0,2,5,6,7]),(3,[0,2,5,6,7])],[],[],[],[]⟩) tab_ok mixed Tryz.func117 rfl Tryz.ntmps117 (rvs:=[.tmp 2]) Tryz.results117 rfl fun hl=>?_
 refine cast (show (True/\((if false=true then !A.isNone else A.isNone)=true->n_0=n_0)/\((if false=true then !A.isNone else A.isNone)=false->(n_0+n_0)*n_8<=n_140737488355328/\cnRs (appR (raw []) nilR)=t_I []))=_ by kernel_rfl) ?_
 delta t_I n_0 n_8 n_140737488355328
 simp only [zza,zzb,true_and,and_true,and_self,ne_eq,cI_app,cWrtO_app,cWrtS_app,cWrtO_1,cItemO_1,opr_ex,zcast,frz_nil,nil_map,Option.getD_none,Option.getD_some]
 cases A<;>simp
theorem CloneS_ok (xs:List ByteArray) (hpre:xs.length<=1000):FunOK Tryz.prog 172 1 [] [(0,k1 (sS xs))] (·=[(1,k1 (oS xs))]):=by
 rcases Nat.eq_zero_or_pos xs.length with h | h
 ·obtain rfl:=List.length_eq_zero_iff.1 h
  exact FunOK.sh0 rfl CloneSz_ok
 ·exact CloneSp_ok xs ⟨h,hpre⟩
def CloneS_c:Con Tryz.prog:=conP [.lend] fun (b:List ByteArray) h=>CloneS_ok b h
theorem CloneI_ok (xs:List Int) (hpre:xs.length<=1000):FunOK Tryz.prog 117 1 [] [(0,k1 (sI xs))] (·=[(1,k1 (oI xs))]):=by
 rcases Nat.eq_zero_or_pos xs.length with h | h
 ·obtain rfl:=List.length_eq_zero_iff.1 h
  exact FunOK.sh0 rfl CloneIz_ok
 ·exact slices_Clone_int_ok xs ⟨h,hpre⟩
def CloneI_c:Con Tryz.prog:=conP [.lend] fun (b:List Int) h=>CloneI_ok b h
theorem impl_writesOf_ok (ws:List Wrt) (hpre:ws.length<=1000/\∀ w∈ws,w.val.length<=1000):FunOK Tryz.prog 173 1 [] [(0,k1 (sWrts ws))] (·=[(1,k1 (oWrts ws))]):=by
 refine fun_to (E:=⟨tab,ctOf [CloneI_c],25,[],[(0,[0,3,12,14,16,19,20,21,22]),(1,[0,3,12,14,16,19,20,21,22]),(2,[0,3,6,7,8,12,14,16,19,20,21,22]),(3,[0,3,6,7,8,9,12,14,16,19,20,21,22]),(4,[0,3,5,6,7,8,12,14,16,19,20,21,22]),(5,[0,3,6,7,8,12,14,16,19,20,21,22]),(6,[0,3,6,7,8,12,14,16,19,20,21,22]),(7,[2,3,12,14,16,19,20,21,22,24])],[(0,⟨List Wrt×Nat,fun x=>[(0,(k1 (.sh 94 (typ dWrt eWrtS ws)))),(3,(k1 (oWrts (x.1)))),(6,(k1 (.sh 94 (typ dWrt eWrtS ws)))),(7,(k1 (.n .i64 ((↑ws.length:Int))))),(8,(k1 (.n .i64 (x.2:Int))))]⟩)],[(7,[(1000000,[])])],[],[]⟩) tab_ok mixed Tryz.func173 rfl Tryz.ntmps173 (rvs:=[.tmp 2]) Tryz.results173 rfl fun hl=>?_
 refine cast (show (∃ (pre:List Wrt×Nat->Prop),∃ (μ:List Wrt×Nat->Nat),∃ (x0:List Wrt×Nat),(q_c ws ws/\x0.1.length=n_0/\q_c ws ws/\zi ws.length=zi ws.length/\i_0=zi x0.2)/\pre x0/\∀ (x:List Wrt×Nat),pre x->(decide (zi x.2<zi ws.length)=true->(i_0<=zi x.2/\zi x.2<zi ws.length)/\∃ (b:List Int),q_I (g_Wrt ws x.2).val b/\b.length<=n_1000/\(x.1.length+n_1)*n_48<=n_140737488355328/\∃ (y:List Wrt×Nat),(q_c ws ws/\cnRs (appR (typ dWrt eWrtO x.1) (raw [[CV.s (g_Wrt ws x.2).key,CV.b (g_Wrt ws x.2).del,CV.ow n_3 (typ i_0 eI b)]]))=t_d y.1/\q_c ws ws/\zi ws.length=zi ws.length/\wr_ ((zi x.2)+i_1)=zi y.2)/\pre y/\μ y<μ x)/\(decide (zi x.2<zi ws.length)=false->q_d x.1 ws))=_ by kernel_rfl) ?_
 delta i_0 i_1 wr_ zi t_I q_I n_0 n_140737488355328 n_1 n_3 g_Wrt t_c q_c n_1000 t_d q_d n_48
 obtain ⟨p1,p2⟩:=hpre
 simp only [zza,zzb,true_and,and_true,and_self,ne_eq,cI_app,cWrtO_app,cWrtS_app,cWrtO_1,cItemO_1,opr_ex,zcast,frz_nil,nil_map,Option.getD_none,Option.getD_some]
 refine ⟨fun x=>x.2<=ws.length/\x.1=ws.take x.2,fun x=>ws.length-x.2,[],rfl,⟨by omega,rfl⟩,fun a i hp=>?_⟩
 obtain ⟨h1,h2⟩:=hp
 simp only at h1 h2
 subst h2
 refine ⟨fun hlt=>?_,fun hge=>?_⟩
 ·have hm:ws.getD i dWrt∈ws:=by rw [getD_lt (by omega)];exact List.getElem_mem _
  exact ⟨by omega,hlt,p2 _ hm,by rw [List.length_take];omega,i+1,wrapN (by omega),⟨by simp only;omega,(take_succ (d:=dWrt) (by omega)).symm⟩,by simp only;omega⟩
 ·have:i=ws.length:=by omega
  subst this
  simp
def impl_writesOf_c:Con Tryz.prog:=⟨173,1,[.lend],[],List Wrt,some fun b=>b.length<=1000/\∀ w∈b,w.val.length<=1000,fun b=>[(0,k1 (sWrts b))],fun b=>[(1,k1 (oWrts b))],[],fun b h=>impl_writesOf_ok b h⟩
theorem impl_LogNote_copied_ok (n:Note) (hpre:smallN n):FunOK Tryz.prog 132 1 [] [(0,kNoteS n)] (·=[(1,kNoteO n)]):=by
 refine fun_to (E:=⟨tab,ctOf [CloneS_c,impl_writesOf_c],14,[],[(0,[1,2,4,6,9,12,13]),(1,[2,4,6,9,12,13])],[],[],[],[]⟩) tab_ok mixed Tryz.func132 rfl Tryz.ntmps132 (rvs:=[.cell 2 72]) Tryz.results132 rfl fun hl=>?_
 refine cast (show (∃ (b:List ByteArray),q_S n.locks b/\b.length<=n_1000/\∃ (b_1:List Wrt),q_c n.writes b_1/\(b_1.length<=n_1000/\∀ (w:Wrt),w∈b_1->w.val.length<=n_1000)/\n.kind=n.kind/\n.tx=n.tx/\q_S b n.locks/\q_d b_1 n.writes)=_ by kernel_rfl) ?_
 delta t_c q_c n_1000 t_S t_d q_S q_d
 obtain ⟨p1,p2,p3⟩:=hpre
 simp only [zza,zzb,true_and,and_true,and_self,ne_eq,cI_app,cWrtO_app,cWrtS_app,cWrtO_1,cItemO_1,opr_ex,zcast,frz_nil,nil_map,Option.getD_none,Option.getD_some]
 exact ⟨p1,p2,p3⟩
def impl_LogNote_copied_c:Con Tryz.prog:=conP [.lend] fun (b:Note) h=>impl_LogNote_copied_ok b h
theorem impl_LogDisk_copied_ok (d:Disk) (hpre:smallD d):FunOK Tryz.prog 93 1 [] [(0,kDiskS d)] (·=[(1,kDiskO d)]):=by
 refine fun_to (E:=⟨tab,ctOf [impl_LogNote_copied_c],25,[],[(0,[1,2,3,24]),(1,[1,2,3,24]),(2,[1,2,3,9,10,11,12,24]),(3,[1,2,3,9,10,11,12,13,24]),(4,[1,2,3,5,9,10,11,12,24]),(5,[1,2,3,9,10,11,12,24]),(6,[1,2,3,9,10,11,12,24]),(7,[2,3,24])],[(0,⟨List Note×Nat,fun x=>[(1,⟨.box,[.c (.sh 72 (typ dNote eNoteS d.notes)),.c (.n .i64 d.safe)],[]⟩),(2,⟨.box,[.c (.ow 72 nilR),.c (.n .i64 ((0:Int)))],[]⟩),(3,⟨.box,[.c (oNotes (x.1)),.c (.n .i64 d.safe)],[]⟩),(9,⟨.one,[.pr 1 0 0],[]⟩),(10,(k1 (.sh 72 (typ dNote eNoteS d.notes)))),(11,(k1 (.n .i64 ((↑d.notes.length:Int))))),(12,(k1 (.n .i64 (x.2:Int))))]⟩)],[],[],[]⟩) tab_ok mixed Tryz.func93 rfl Tryz.ntmps93 (rvs:=[.cell 2 25]) Tryz.results93 rfl fun hl=>?_
 refine cast (show (let k_3:Prop:=n_1=n_1/\n_0=n_0/\true=true;let k_2:Prop:=q_e d.notes d.notes/\d.safe=d.safe;let k_1:Prop:=zi d.notes.length=zi d.notes.length;∃ (pre:List Note×Nat->Prop),∃ (μ:List Note×Nat->Nat),∃ (x0:List Note×Nat),(k_2/\(cnRs nilR=cnRs nilR/\i_0=i_0)/\(cnRs nilR=t_f x0.1/\d.safe=d.safe)/\k_3/\q_e d.notes d.notes/\k_1/\i_0=zi x0.2)/\pre x0/\(∀ (x:List Note×Nat),pre x->(decide (zi x.2<zi d.notes.length)=true->(i_0<=zi x.2/\zi x.2<zi d.notes.length)/\(∃ (b:Note),((g_Note d.notes x.2).kind=b.kind/\(g_Note d.notes x.2).tx=b.tx/\q_S (g_Note d.notes x.2).locks b.locks/\q_c (g_Note d.notes x.2).writes b.writes)/\smallN b/\(x.1.length+n_1)*n_64<=n_140737488355328/\(∃ (y:List Note×Nat),(k_2/\(cnRs nilR=cnRs nilR/\i_0=i_0)/\(cnRs (appR (typ dNote eNoteO x.1) (raw [[cn_ b.kind,cn_ b.tx,CV.ow n_9 (typ ByteArray.empty eS b.locks),CV.ow n_94 (typ dWrt eWrtO b.writes)]]))=t_f y.1/\d.safe=d.safe)/\k_3/\q_e d.notes d.notes/\k_1/\wr_ ((zi x.2)+i_1)=zi y.2)/\pre y/\μ y<μ x)))/\(decide (zi x.2<zi d.notes.length)=false->q_f x.1 d.notes/\d.safe=d.safe)))=_ by kernel_rfl) ?_
 delta i_0 i_1 wr_ zi n_0 n_140737488355328 n_1 t_c q_c cn_ t_S q_S g_Note t_e q_e t_f q_f n_64 n_9 n_94
 obtain ⟨p1,p2⟩:=hpre
 simp only [zza,zzb,true_and,and_true,and_self,ne_eq,cI_app,cWrtO_app,cWrtS_app,cWrtO_1,cItemO_1,opr_ex,zcast,frz_nil,nil_map,Option.getD_none,Option.getD_some]
 refine ⟨fun x=>x.2<=d.notes.length/\x.1=d.notes.take x.2,⟨by omega,rfl⟩,fun x=>d.notes.length-x.2,fun a i hp=>?_⟩
 obtain ⟨h1,h2⟩:=hp
 simp only at h1 h2
 subst h2
 refine ⟨fun hlt=>?_,fun hge=>?_⟩
 ·have hm:d.notes.getD i dNote∈d.notes:=by rw [getD_lt (by omega)];exact List.getElem_mem _
  refine ⟨by omega,hlt,p2 _ hm,by rw [List.length_take];omega,d.notes.take (i+1),?_,i+1,wrapN (by omega),⟨by simp only;omega,rfl⟩,by simp only;omega⟩
  rw [take_succ (d:=dNote) (by omega)]
  simp
 ·have:i=d.notes.length:=by omega
  subst this
  simp
def impl_LogDisk_copied_c:Con Tryz.prog:=conP [.lend] fun (b:Disk) h=>impl_LogDisk_copied_ok b h
theorem impl_DiskOf_ok (d:Disk) (tx:Int):FunOK Tryz.prog 14 2 [] [(0,kDiskS d),(1,kI tx)] (·=[(2,kI (if diskB d=true then ofN d.notes tx else 0))]):=by
 refine fun_to (E:=⟨tab,ctOf [impl_DiskOk_c,impl_of_c],11,[],[(0,[1,2]),(1,[1,2,7]),(2,[4]),(3,[4])],[],[],[],[]⟩) tab_ok mixed Tryz.func14 rfl Tryz.ntmps14 (rvs:=[.tmp 4]) Tryz.results14 rfl fun hl=>?_
 refine cast (show (∃ (b:Disk),(q_e d.notes b.notes/\d.safe=b.safe)/\((!diskB b)=true->i_0=if diskB d=true then ofN d.notes tx else i_0)/\((!diskB b)=false->∃ (b:Disk×Int),((q_e d.notes b.1.notes/\d.safe=b.1.safe)/\tx=b.2)/\ofN b.1.notes b.2=if diskB d=true then ofN d.notes tx else i_0))=_ by kernel_rfl) ?_
 delta i_0 t_e q_e
 simp only [zza,zzb,true_and,and_true,and_self,ne_eq,cI_app,cWrtO_app,cWrtS_app,cWrtO_1,cItemO_1,opr_ex,zcast,frz_nil,nil_map,Option.getD_none,Option.getD_some]
 refine ⟨fun h=>?_,fun h=>?_⟩
 ·have h:diskB d=false:=by simpa only [Bool.not_eq_true'] using h
  rw [if_neg (by rw [h];decide)]
 ·have h:diskB d=true:=by simpa only [Bool.not_eq_false'] using h
  rw [if_pos h]
def impl_DiskOf_c:Con Tryz.prog:=con0 [.lend,.lend] fun b:Disk×Int=>impl_DiskOf_ok (b.1) (b.2)
end Go.Proofs.AI
namespace Go.Proofs.AI
open Go.RowKit Go.Shelf Go.Proofs
set_option linter.unusedVariables false
set_option linter.unusedSimpArgs false
set_option maxRecDepth 100000
set_option maxHeartbeats 1000000 in
theorem clip_in (A:Option Addr) (len cap:Nat) (hcap:len<=cap) (hm:len<=9223372036854775807) (w:World) :
  Calls Tryz.prog 94 #[.slice A len cap] w fun e w'=>e=.returned (.slice A len len)/\w'=w:=by
 refine calls_of_wp Tryz.func94 rfl ?_
 simp only [Tryz.ntmps94,List.size_toArray,List.length_cons,List.length_nil,Nat.reduceAdd,Nat.reduceSub,Array.replicate_succ,Array.replicate_zero,List.push_toArray,List.append_toArray,List.nil_append,List.cons_append]
 go_wp2
 go_ret
 exact ⟨rfl,rfl⟩
theorem clip_ok (ns:List Note):FunOK Tryz.prog 94 1 [] [(0,k1 (sNotes ns))] (·=[(1,k1 (sNotes ns))]):=by
 refine FunOK.hand Tryz.func94 rfl rfl (by simp) fun args w I U B hs hI hk=>?_
 obtain ⟨a1,a2⟩:=hk 0 (k1 (sNotes ns)) (by simp [mk,up])
 obtain ⟨G0,hn⟩:=a2 0 _ rfl
 have hone:=hn.one
 obtain ⟨A,c,us,hv,h1,h2,h3,h4,h5⟩:=hn.sh_inv
 have hargs:args=#[.slice A ns.length c]:=by
  have q0:args.getD 0 undef=U 0 0:=a1.2.2
  refine Array.ext (by simpa using hs) fun j h1 h2=>?_
  have:j=0:=by
           have:j<1:=by simpa using h2
           omega
  subst this
  rw [Array.getD_eq_getD_getElem?,Array.getElem?_eq_getElem h1,hv] at q0;exact q0
 subst hargs
 refine Calls.mono (clip_in A ns.length c h1 h2 w) fun e w' ⟨g1,g2⟩=>?_
 subst g2
 refine ⟨_,fun _=>.slice A ns.length ns.length,g1,Below.refl _ _,⟨fun _ _=>rfl,rfl,rfl⟩,fun o x hx=>?_⟩
 cases o with
 | zero=>simp at hx;subst hx;exact ⟨_,rfl,.sh us (Nat.le_refl _) h2 h3 h4 h5⟩
 | succ o=>simp at hx
def clip_c:Con Tryz.prog:=con0 [.lend] fun b:List Note=>clip_ok b
end Go.Proofs.AI
namespace Go.Proofs.AI
open Go.RowKit Go.Proofs
set_option linter.unusedVariables false
set_option linter.unusedSimpArgs false
set_option maxRecDepth 100000
theorem impl_DiskFall_ok (d:Disk) (keep:Int):FunOK Tryz.prog 40 2 [] [(0,kDiskS d),(1,kI keep)] (·=[(2,kDiskS (fallD d keep))]):=by
 refine fun_to (E:=⟨tab,ctOf [impl_DiskOk_c,impl_LogDisk_copied_c,clip_c],37,[],[(0,[1,2,4,5,9,36]),(1,[1,2,4,5,8,9,36]),(2,[4,5,9,36]),(3,[1,2,4,5,9,36]),(4,[4,5,9,36]),(5,[4,5,9,36]),(6,[4,5,9,36]),(7,[4,5,9,36])],[],[(2,[(1,[9])]),(4,[(0,[5])])],[],[]⟩) tab_ok mixed Tryz.func40 rfl Tryz.ntmps40 (rvs:=[.cell 4 25]) Tryz.results40 rfl fun hl=>?_
 refine cast (show (∃ (b:Disk),(q_e d.notes b.notes/\d.safe=b.safe)/\((!diskB b)=true->cnRs (frozenRs nilR)=t_e (fallD d keep).notes/\i_0=(fallD d keep).safe)/\((!diskB b)=false->∃ (b:Disk),(q_e d.notes b.notes/\d.safe=b.safe)/\smallD b/\(i_0<=none.getD i_0/\none.getD i_0<=(some (wr_ (d.safe+if (if wr_ ((zi d.notes.length)-d.safe)<keep then wr_ ((zi d.notes.length)-d.safe) else keep)>i_0 then if wr_ ((zi d.notes.length)-d.safe)<keep then wr_ ((zi d.notes.length)-d.safe) else keep else i_0))).getD (zi b.notes.length)/\(some (wr_ (d.safe+if (if wr_ ((zi d.notes.length)-d.safe)<keep then wr_ ((zi d.notes.length)-d.safe) else keep)>i_0 then if wr_ ((zi d.notes.length)-d.safe)<keep then wr_ ((zi d.notes.length)-d.safe) else keep else i_0))).getD (zi b.notes.length)<=zi b.notes.length)/\∃ (b_1:List Note),cnRs (cutR (frozenRs (typ dNote eNoteO b.notes)) (none.getD i_0).toNat ((some (wr_ (d.safe+if (if wr_ ((zi d.notes.length)-d.safe)<keep then wr_ ((zi d.notes.length)-d.safe) else keep)>i_0 then if wr_ ((zi d.notes.length)-d.safe)<keep then wr_ ((zi d.notes.length)-d.safe) else keep else i_0))).getD (zi b.notes.length)).toNat)=t_e b_1/\q_e b_1 (fallD d keep).notes/\zi b_1.length=(fallD d keep).safe))=_ by kernel_rfl) ?_
 delta i_0 wr_ zi t_e q_e
 have hk:=hl
 simp only [zza,zzb,true_and,and_true,and_self,ne_eq,cI_app,cWrtO_app,cWrtS_app,cWrtO_1,cItemO_1,opr_ex,zcast,frz_nil,nil_map,Option.getD_none,Option.getD_some]
 refine ⟨fun h=>?_,fun h=>?_⟩
 ·simp at h;simp [fallD,h]
 simp at h
 obtain ⟨g1,g2,g3,g4⟩:=diskB_small h
 simp only [fallD,h,if_true]
 rw [IntWalk.i64_in ((d.notes.length:Int)-d.safe) (by omega)]
 have e:(if 0<(if (d.notes.length:Int)-d.safe<keep then (d.notes.length:Int)-d.safe else keep) then (if (d.notes.length:Int)-d.safe<keep then (d.notes.length:Int)-d.safe else keep) else 0)=max 0 (min keep (d.notes.length-d.safe)):=by
  split<;>split at *<;>omega
 rw [e,IntWalk.i64_in _ (by omega)]
 generalize hz:d.safe+max 0 (min keep (d.notes.length-d.safe))=z
 refine ⟨g1,by omega,by omega,by omega,d.notes.take z.toNat,?_,rfl,?_⟩
 ·rw [show Int.toNat 0=0 from rfl,cut_typ _ (by omega),List.drop_zero,cNoteS]
 ·rw [List.length_take];omega
def impl_DiskFall_c:Con Tryz.prog:=con0 [.lend,.lend] fun b:Disk×Int=>impl_DiskFall_ok (b.1) (b.2)
end Go.Proofs.AI
namespace Go.Proofs.AI
open Go.RowKit
set_option linter.unusedVariables false
set_option linter.unusedSimpArgs false
def eqFs2 (P:Program):List CK->Nat->List Field->Bool
 | ks,_,[]=>ks.isEmpty
 | ks,j,f::fs=>(f.name != "_")&&f.offset==j&&match P.underlying f.type with
  | some (.struct gs)=>!P.stoodInHeld f.type&&decide (gs.size<=ks.length)&&decide ((P.info? f.type).map (·.size)=some gs.size)&&eqFs P (ks.take gs.size) 0 gs.toList&&eqFs2 P (ks.drop gs.size) (j+gs.size) fs
  | u=>match ks with
   | k::ks=>ckOf u k&&eqFs2 P ks (j+1) fs
   | []=>false
theorem areCK_app:∀ {ks ks':List CK} {xs:List Value},areCK (ks++ks') xs->areCK ks (xs.take ks.length)/\areCK ks' (xs.drop ks.length)
 | [],_,_,h=>⟨trivial,h⟩
 | _::_,_,[],h=>h.elim
 | _::ks,_,_::xs,h=>⟨⟨h.1,(areCK_app h.2).1⟩,(areCK_app h.2).2⟩
theorem eqL_app:∀ {a b:List Value} {c d:List Value},a.length=b.length->c.length=d.length->eqL (a++c) (b++d)=(eqL a b&&eqL c d)
 | [],[],c,d,_,_=>by simp [eqL]
 | x::a,y::b,c,d,h,h2=>by
  have h:a.length=b.length:=by simpa using h
  rw [List.cons_append,List.cons_append,eqL_cons (by simp [h,h2]),eqL_cons h,eqL_app h h2,Bool.and_assoc]
theorem run_eqFields2 {P:Program} {w:World} {xs ys:Array Value} (d:Nat):∀ (fs:List Field) (ks:List CK) (j:Nat) (a b:List Value),eqFs2 P ks j fs=true->xs.toList.drop j=a->ys.toList.drop j=b->areCK ks a->areCK ks b ->
  (Op.eqFields (d+2) xs ys fs).run P w=.ok (eqL a b) w
 | [],ks,j,a,b,h,hx,hy,ha,hb=>by
  have hk:ks=[]:=by simpa [eqFs2] using h
  subst hk
  cases a with
  | cons x a=>exact ha.elim
  | nil=>cases b with
   | cons y b=>exact hb.elim
   | nil=>simp [Op.eqFields,eqL]
 | f::fs,ks,j,a,b,h,hx,hy,ha,hb=>by
  simp only [eqFs2,Bool.and_eq_true,bne_iff_ne,beq_iff_eq] at h
  obtain ⟨⟨h1,h2⟩,h3⟩:=h
  split at h3
  ·rename_i gs hu
   simp only [Bool.and_eq_true,Bool.not_eq_true',decide_eq_true_eq] at h3
   obtain ⟨⟨⟨⟨g1,g2⟩,g3⟩,g4⟩,g5⟩:=h3
   obtain ⟨inf,e1,e2⟩:=Option.map_eq_some_iff.1 g3
   have hl:(ks.take gs.size).length=gs.size:=by rw [List.length_take];omega
   have hka:areCK (ks.take gs.size++ks.drop gs.size) a:=by rw [List.take_append_drop];exact ha
   have hkb:areCK (ks.take gs.size++ks.drop gs.size) b:=by rw [List.take_append_drop];exact hb
   obtain ⟨a1,a2⟩:=areCK_app hka
   obtain ⟨b1,b2⟩:=areCK_app hkb
   rw [hl] at a1 a2 b1 b2
   have hp:∀ (zs:Array Value) (c:List Value),zs.toList.drop j=c->(part f.type zs f.offset).run P w=.ok (.agg (zs.extract j (j+gs.size))) w:=fun zs c _=>by
    have hs:(sizeOf f.type).run P w=.ok gs.size w:=by simp [sizeOf,typeInfo,e1,e2]
    simp [part,isAgg,run_underlying hu,TypeDesc.isRow,h2,hs]
   have hxs:(xs.extract j (j+gs.size)).toList=a.take gs.size:=by simp [<- hx]
   have hys:(ys.extract j (j+gs.size)).toList=b.take gs.size:=by simp [<- hy]
   have hf:P.fieldsOf f.type=gs:=by simp [Program.fieldsOf,hu]
   have he:(Op.equalIn (d+2) f.type (.agg (xs.extract j (j+gs.size))) (.agg (ys.extract j (j+gs.size)))).run P w=.ok (eqL (a.take gs.size) (b.take gs.size)) w:=by
    rw [run_equalIn_struct w (d+1) f.type _ _ (by rw [hf];exact hu) g1,hf]
    exact run_eqFields d _ 0 gs.toList _ _ g4 (by simpa using hxs) (by simpa using hys) a1 b1
   have la:=areCK_length a1
   have lb:=areCK_length b1
   have la2:=areCK_length a2
   have lb2:=areCK_length b2
   have hab:eqL a b=(eqL (a.take gs.size) (b.take gs.size)&&eqL (a.drop gs.size) (b.drop gs.size)):=by
    rw [<- eqL_app (by omega) (by omega),List.take_append_drop,List.take_append_drop]
   rw [hab]
   simp only [Op.eqFields,h1,ne_eq,not_false_eq_true,if_true,Sem.run_bind,hp xs a hx,hp ys b hy,Result.andThen_ok,he]
   cases hc:eqL (a.take gs.size) (b.take gs.size)
   ·simp
   ·simpa using run_eqFields2 d fs (ks.drop gs.size) (j+gs.size) (a.drop gs.size) (b.drop gs.size) g5 (by rw [<- hx,List.drop_drop]) (by rw [<- hy,List.drop_drop]) a2 b2
  ·cases ks with
   | nil=>cases h3
   | cons k ks =>
    simp only [Bool.and_eq_true] at h3
    obtain ⟨h3,h4⟩:=h3
    cases a with
    | nil=>exact ha.elim
    | cons x a=>cases b with
     | nil=>exact hb.elim
     | cons y b =>
      have gx:xs[j]?=some x:=by
       have:=congrArg (·[0]?) hx
       simpa using this
      have gy:ys[j]?=some y:=by
       have:=congrArg (·[0]?) hy
       simpa using this
      have dx:xs.toList.drop (j+1)=a:=by rw [<- List.drop_drop,hx]<;>rfl
      have dy:ys.toList.drop (j+1)=b:=by rw [<- List.drop_drop,hy]<;>rfl
      have hl:a.length=b.length:=by rw [<- areCK_length ha.2,<- areCK_length hb.2]
      rw [eqL_cons hl]
      simp only [Op.eqFields,h1,ne_eq,not_false_eq_true,if_true,Sem.run_bind,h2,run_part_ck h3 gx,run_part_ck h3 gy,Result.andThen_ok,run_eq_ck h3 ha.1 hb.1 (d+1)]
      cases hc:eqC x y
      ·simp
      ·simpa using run_eqFields2 d fs ks (j+1) a b h4 dx dy ha.2 hb.2
def eqT2 (P:Program) (t:TypeId) (ks:List CK):Bool:=!P.stoodInHeld t&&!P.eqGuardType P.depth t&&match P.underlying t with
 | some (.struct fs)=>eqFs2 P ks 0 fs.toList
 | _=>false
theorem eqT2_ok {P:Program} {t:TypeId} {ks:List CK} (h:eqT2 P t ks=true) (w:World) (xs ys:Array Value) (ex ey:Operand) (hx:areCK ks xs.toList) (hy:areCK ks ys.toList) :
  (do eqGuard .eql t ex ey (.agg xs) (.agg ys);binOp .eql t (.agg xs) (.agg ys):Sem Value).run P w=.ok (.bool (eqL xs.toList ys.toList)) w /\
  (do eqGuard .neq t ex ey (.agg xs) (.agg ys);binOp .neq t (.agg xs) (.agg ys):Sem Value).run P w=.ok (.bool (!eqL xs.toList ys.toList)) w:=by
 simp only [eqT2,Bool.and_eq_true,Bool.not_eq_true'] at h
 obtain ⟨⟨h1,h2⟩,h3⟩:=h
 split at h3
 ·rename_i fs hu
  have hf:P.fieldsOf t=fs:=by simp [Program.fieldsOf,hu]
  have he:(Op.equalIn 10000 t (.agg xs) (.agg ys)).run P w=.ok (eqL xs.toList ys.toList) w:=by
   rw [run_equalIn_struct w 9999 t xs ys (by rw [hf];exact hu) h1,hf]
   exact run_eqFields2 9997 fs.toList ks 0 _ _ h3 rfl rfl hx hy
  constructor
  ·simp only [Sem.run_bind,run_eqGuard_agg _ _ _ _ _ _ _ h2,Result.andThen_ok,run_eql_struct,he]
  ·simp only [Sem.run_bind,run_eqGuard_agg _ _ _ _ _ _ _ h2,Result.andThen_ok,run_neq_struct,he]
 ·cases h3
theorem tabOf_eq2 {P:Program} {t:TypeId} {i:TyI} (h:tabOf P t=some { i with els:=[],eq:=[] }) (he:eqT2 P t i.eq=true):TyOk P t i:=by
 have:=tabOf_ok t _ h
 exact ⟨this.info,fun hne w xs ys ex ey h1 h2=>eqT2_ok he w xs ys ex ey h1 h2,this.desc⟩
end Go.Proofs.AI
namespace Go.Proofs.AI
open Go.RowKit Go.Proofs
set_option linter.unusedVariables false
set_option linter.unusedSimpArgs false
set_option maxRecDepth 100000
def tabM:Tab:=fun t=>if t=63 then some ⟨.st,11,88,[(0,1,false),(1,1,false),(2,1,false),(3,1,false),(4,7,true)],[.int .i64 0,.int .i64 0,.int .i64 0,.int .i64 0,.int .i64 0,.int .i64 0,.int .i64 0,.int .i64 0,.int .i64 0,.int .i64 0,.int .i64 0],[.n .i64,.n .i64,.n .i64,.n .i64,.n .i64,.n .i64,.n .i64,.n .i64,.n .i64,.n .i64,.n .i64],[]⟩ else tab t
theorem tabM_ok:TabOk Tryz.prog tabM:=by
 intro t i h
 unfold tabM at h
 split at h
 ·rename_i ht;subst ht;cases h;exact tabOf_eq2 rfl (by kernel_rfl)
 ·exact tab_ok t i h
theorem note_ext {a b:Note} (h1:a.kind=b.kind) (h2:a.tx=b.tx) (h3:a.locks=b.locks) (h4:a.writes=b.writes):a=b:=by cases a;cases b;simp_all
theorem laws_jaNote_ok (a:Note) (b:Note):FunOK Tryz.prog 131 2 [] [(0,kNoteS a),(1,kNoteS b)] (·=[(2,kB (decide (a=b)))]):=by
 refine fun_to (E:=⟨tab,ctOf [laws_jaTexts_c,laws_jaWrites_c],31,[],[(0,[2,3]),(1,[4])],[],[],[],[]⟩) tab_ok mixed Tryz.func131 rfl Tryz.ntmps131 (rvs:=[.tmp 4]) Tryz.results131 rfl fun hl=>?_
 refine cast (show (((a.kind==b.kind)=true->((a.tx==b.tx)=true->∃ (b_1:y_16),(q_S a.locks b_1.1/\q_S b.locks b_1.2)/\(decide (b_1.1=b_1.2)=true->∃ (b_2:y_30),(q_c a.writes b_2.1/\q_c b.writes b_2.2)/\decide (b_2.1=b_2.2)=decide (a=b))/\(decide (b_1.1=b_1.2)=false->false=decide (a=b)))/\((a.tx==b.tx)=false->false=decide (a=b)))/\((a.kind==b.kind)=false->false=decide (a=b)))=_ by kernel_rfl) ?_
 delta t_c q_c t_S q_S y_16 y_30
 simp only [zza,zzb,true_and,and_true,and_self,ne_eq,cI_app,cWrtO_app,cWrtS_app,cWrtO_1,cItemO_1,opr_ex,zcast,frz_nil,nil_map,Option.getD_none,Option.getD_some]
 refine ⟨fun h1=>⟨fun h2=>⟨fun h3=>?_,fun h3=>?_⟩,fun h2=>?_⟩,fun h1=>?_⟩
 ·rw [Bool.eq_iff_iff,decide_eq_true_eq,decide_eq_true_eq];exact ⟨fun h=>note_ext h1 h2 h3 h,fun h=>by rw [h]⟩
 ·exact (decide_eq_false fun he=>h3 (by rw [he])).symm
 ·exact (decide_eq_false fun he=>h2 (by rw [he])).symm
 ·exact (decide_eq_false fun he=>h1 (by rw [he])).symm
def laws_jaNote_c:Con Tryz.prog:=con0 [.lend,.lend] fun b:Note×Note=>laws_jaNote_ok (b.1) (b.2)
theorem laws_jaNotes_ok (a:List Note) (b:List Note):FunOK Tryz.prog 92 2 [] [(0,k1 (sNotes a)),(1,k1 (sNotes b))] (·=[(2,kB (decide (a=b)))]):=by
 refine fun_to (E:=⟨tab,ctOf [laws_jaNote_c],27,[],[(0,[0,1]),(1,[0,1,10]),(2,[4]),(3,[0,1,5]),(4,[0,1,5,14]),(5,[0,1,5]),(6,[0,1,5,26]),(7,[4]),(8,[4])],[(0,⟨Nat,fun x=>[(0,(k1 (.sh 72 (typ dNote eNoteS a)))),(1,(k1 (.sh 72 (typ dNote eNoteS b)))),(5,(k1 (.n .i64 (x:Int))))]⟩)],[],[],[]⟩) tab_ok mixed Tryz.func92 rfl Tryz.ntmps92 (rvs:=[.tmp 4]) Tryz.results92 rfl fun hl=>?_
 refine cast (show ((((zi a.length) != zi b.length)=true->false=decide (a=b))/\(((zi a.length) != zi b.length)=false->∃ (pre:Nat->Prop),∃ (μ:Nat->Nat),∃ (x0:Nat),(q_e a a/\q_e b b/\i_0=zi x0)/\pre x0/\∀ (x:Nat),pre x->(decide (zi x<zi a.length)=true->(i_0<=zi x/\zi x<zi a.length)/\(i_0<=zi x/\zi x<zi b.length)/\∃ (b_1:Note×Note),(((g_Note a x).kind=b_1.1.kind/\(g_Note a x).tx=b_1.1.tx/\q_S (g_Note a x).locks b_1.1.locks/\q_c (g_Note a x).writes b_1.1.writes)/\(g_Note b x).kind=b_1.2.kind/\(g_Note b x).tx=b_1.2.tx/\q_S (g_Note b x).locks b_1.2.locks/\q_c (g_Note b x).writes b_1.2.writes)/\((!decide (b_1.1=b_1.2))=true->false=decide (a=b))/\((!decide (b_1.1=b_1.2))=false->∃ (y:Nat),(q_e a a/\q_e b b/\wr_ ((zi x)+i_1)=zi y)/\pre y/\μ y<μ x))/\(decide (zi x<zi a.length)=false->true=decide (a=b))))=_ by kernel_rfl) ?_
 delta i_0 i_1 wr_ zi t_c q_c t_S q_S g_Note t_e q_e
 have hx:a.length<=9223372036854775807:=hl.1 (.c (sNotes a)) (by simp)
 simp only [zza,zzb,true_and,and_true,and_self,ne_eq,cI_app,cWrtO_app,cWrtS_app,cWrtO_1,cItemO_1,opr_ex,zcast,frz_nil,nil_map,Option.getD_none,Option.getD_some]
 refine ⟨fun h=>?_,fun h=>?_⟩
 ·exact (decide_eq_false fun he=>h (by rw [he])).symm
 have hlen:=len_ne h
 refine ⟨fun i=>i<=a.length/\∀ j,j<i->a.getD j dNote=b.getD j dNote,⟨by omega,fun j hj=>absurd hj (Nat.not_lt_zero _)⟩,fun i=>a.length-i,fun i hp=>?_⟩
 obtain ⟨h1,h2⟩:=hp
 refine ⟨fun hlt=>⟨by omega,hlt,by omega,by omega,fun e=>?_,fun e=>⟨i+1,wrapN (by omega),⟨by omega,below_succ h2 (by simpa using e)⟩,by simp only;omega⟩⟩,fun hge=>?_⟩
 ·have e:¬ a.getD i dNote=b.getD i dNote:=by simpa using e
  exact (decide_eq_false fun he=>e (by rw [he])).symm
 ·exact (decide_eq_true (ext_getD (d:=dNote) hlen fun j hj=>h2 j (by omega))).symm
def laws_jaNotes_c:Con Tryz.prog:=con0 [.lend,.lend] fun b:List Note×List Note=>laws_jaNotes_ok (b.1) (b.2)
theorem laws_jaDisk_ok (a:Disk) (b:Disk):FunOK Tryz.prog 39 2 [] [(0,kDiskS a),(1,kDiskS b)] (·=[(2,kB (decide (a=b)))]):=by
 refine fun_to (E:=⟨tab,ctOf [laws_jaNotes_c],17,[],[(0,[2,3]),(1,[4])],[],[],[],[]⟩) tab_ok mixed Tryz.func39 rfl Tryz.ntmps39 (rvs:=[.tmp 4]) Tryz.results39 rfl fun hl=>?_
 refine cast (show (((a.safe==b.safe)=true->∃ (b_1:y_31),(q_e a.notes b_1.1/\q_e b.notes b_1.2)/\decide (b_1.1=b_1.2)=decide (a=b))/\((a.safe==b.safe)=false->false=decide (a=b)))=_ by kernel_rfl) ?_
 delta t_e q_e y_31
 simp only [zza,zzb,true_and,and_true,and_self,ne_eq,cI_app,cWrtO_app,cWrtS_app,cWrtO_1,cItemO_1,opr_ex,zcast,frz_nil,nil_map,Option.getD_none,Option.getD_some]
 refine ⟨fun h1=>?_,fun h1=>?_⟩
 ·rw [Bool.eq_iff_iff,decide_eq_true_eq,decide_eq_true_eq];exact ⟨fun h=>Disk_ext h h1,fun h=>by rw [h]⟩
 ·exact (decide_eq_false fun he=>h1 (by rw [he])).symm
def laws_jaDisk_c:Con Tryz.prog:=con0 [.lend,.lend] fun b:Disk×Disk=>laws_jaDisk_ok (b.1) (b.2)
end Go.Proofs.AI
namespace Go.Proofs.AI
open Go.RowKit Go.Proofs
set_option linter.unusedVariables false
set_option linter.unusedSimpArgs false
set_option maxRecDepth 100000
theorem diskR_le {l:List Int}:∀ (k:Nat) (d:Disk) (p:Nat),rdB l p (111*k)->(diskR l k d p).2<=p+111*k
 | 0,d,p,h=>by simp [diskR]
 | k+1,d,p,h=>by
  have h1:=(noteD_le (l:=l) (p:=p) 0 (rdB_le h (by omega))).1
  have h2:=diskR_le k (addD d (noteD l p 0).1 (pickB l (noteD l p 0).2 2==0)).1 ((noteD l p 0).2+1) (rdB_le h (by omega))
  rw [diskR];omega
theorem disk0_le {l:List Int} {p:Nat} (h:rdB l p 1400):(disk0 l p).2<=p+1000:=by
 have b:=pick_lt (l:=l) (p:=p) (n:=10) (rdB_le h (by omega):rdB l p 1) (by omega)
 have:=diskR_le (l:=l) (pickB l p 10).toNat ⟨[],0⟩ (p+1) (rdB_le h (by omega))
 simp only [disk0];omega
theorem diskD_le {l:List Int} {p:Nat} (n:Int) (h:rdB l p 1400):(diskD l p n).2<=p+1200:=by
 have h1:=disk0_le h
 have h2:=odd_le l (disk0 l p).2 n
 have h3:=(noteD_le (l:=l) (p:=(oddB l (disk0 l p).2 n).2+1) 1 (rdB_le h (by omega))).1
 rw [diskD_eq]
 split
 ·simp only [diskBent]
  repeat' split
  all_goals simp only<;>omega
 ·simp only;omega
theorem frontD_le {l:List Int} {p:Nat} (n:Int) (h:rdB l p 4000):(frontD l p n).2<=p+2500:=by
 have h1:=playD_le50 (l:=l) (p:=p) (rdB_le h (by omega))
 have h2:=odd_le l (playD l p 50).2 n
 have h3:=diskD_le (l:=l) (p:=(oddB l (playD l p 50).2 n).2+1) 2 (rdB_le h (by omega))
 have h4:=op_le (l:=l) (p:=(oddB l (playD l p 50).2 n).2+2) 2 (rdB_le h (by omega))
 rw [frontD_eq]
 split
 ·simp only [frontBent]
  repeat' split
  all_goals simp only<;>omega
 ·simp only;omega
end Go.Proofs.AI
namespace Go.Proofs.AI
set_option linter.unusedVariables false
set_option linter.unusedSimpArgs false
theorem risB_iff {l:List Int}:risB l=true↔ris3 l:=by
 refine ⟨ris3_of,fun h=>?_⟩
 rcases ris3_cases h with rfl | rfl | rfl | rfl | rfl | rfl | rfl | rfl<;>decide
theorem adj_pw {l:List FTx} (h:∀ i,i+1<l.length->(l.getD i dFTx).tx<(l.getD (i+1) dFTx).tx):l.Pairwise fun a b=>a.tx<b.tx:=by
 have lt:∀ d i,i+d+1<l.length->(l.getD i dFTx).tx<(l.getD (i+d+1) dFTx).tx:=fun d=>by
  induction d with
  | zero=>intro i hi;exact h i hi
  | succ d ih=>intro i hi;have:=ih i (by omega);have:=h (i+d+1) (by omega);rw [show i+(d+1)+1=i+d+1+1 by omega];omega
 refine List.pairwise_iff_getElem.2 fun i j hi hj hij=>?_
 have:=lt (j-i-1) i (by omega)
 rw [show i+(j-i-1)+1=j by omega,getD_lt hi,getD_lt hj] at this
 exact this
theorem pw_at {l:List FTx} (h:l.Pairwise fun a b=>a.tx<b.tx) {i j:Nat} (hij:i<j) (hj:j<l.length):(l.getD i dFTx).tx<(l.getD j dFTx).tx:=by
 have:=List.pairwise_iff_getElem.1 h i j (by omega) hj hij
 rwa [getD_lt (by omega:i<l.length),getD_lt hj]
theorem froB_iff {f:Front}:froB f=true↔okF f:=by
 refine ⟨fun h=>?_,fun h=>?_⟩
 ·obtain ⟨g1,g2,g3,g4⟩:=froB_parts h
  have hp:∀ k,k<f.way.length->okT f.disk.notes (f.way.getD k dFTx):=fun k hk=>by
   have:=g4 k hk
   simp only [wayP,Bool.and_eq_true,Bool.or_eq_true,beq_iff_eq,decide_eq_true_eq] at this
   obtain ⟨⟨⟨⟨⟨q1,q2⟩,q3⟩,q4⟩,q5⟩,q6⟩:=this
   refine ⟨by simpa [inR] using q1,risB_iff.1 q3,risB_iff.1 q4,q5,fun hy=>?_⟩
   rcases q6 with q6 | q6
   ·rw [hy] at q6;cases q6
   ·exact ⟨q6.1,List.length_eq_zero_iff.1 q6.2⟩
  refine ⟨g1,g2,g3,adj_pw fun i hi=>?_,fun t ht=>?_⟩
  ·have:=g4 (i+1) hi
   simp only [wayP,Bool.and_eq_true,Bool.or_eq_true,beq_iff_eq,decide_eq_true_eq] at this
   rcases this.1.1.1.1.2 with h0 | h0
   ·omega
   ·simpa using h0
  ·obtain ⟨k,hk,rfl⟩:=List.getElem_of_mem ht
   have:=hp k hk
   rwa [getD_lt hk] at this
 ·simp only [froB,Bool.and_eq_true,decide_eq_true_eq,List.all_eq_true,Bool.or_eq_true,beq_iff_eq,List.mem_range]
  refine ⟨⟨⟨h.fd,h.wl⟩,h.kd⟩,fun k hk=>?_⟩
  have ht:=h.ok _ (getD_mem' (d:=dFTx) hk)
  simp only [wayP,Bool.and_eq_true,Bool.or_eq_true,beq_iff_eq,decide_eq_true_eq]
  refine ⟨⟨⟨⟨⟨by simpa [inR] using ht.tx,?_⟩,risB_iff.2 ht.can⟩,risB_iff.2 ht.know⟩,ht.yes⟩,?_⟩
  ·rcases Nat.eq_zero_or_pos k with h0 | h0
   ·exact .inl h0
   ·exact .inr (pw_at h.ws (by omega) hk)
  ·rcases Bool.eq_false_or_eq_true (f.way.getD k dFTx).yes with hy | hy
   ·exact .inl hy
   ·exact .inr ⟨(ht.op hy).1,by rw [(ht.op hy).2]<;>rfl⟩
theorem fallW_pw (ns:List Note) (k:Nat):(fallW ns k).Pairwise fun a b=>a.tx<b.tx:=by
 induction k with
 | zero=>simp [fallW]
 | succ k ih =>
  rw [fallW_succ]
  split
  ·refine List.pairwise_append.2 ⟨ih,by simp,fun a ha b hb=>?_⟩
   obtain ⟨i,hi,_,rfl⟩:=fallW_mem ha
   simp at hb;subst hb
   simp only;omega
  ·exact ih
theorem fall_ok {f:Front} (h:okF f) (keep:Int):okF (fallF f keep):=by
 simp only [fallF,froB_iff.2 h,if_true]
 refine ⟨fallD_ok h.fd keep,fallW_len _ _,fun n hn=>?_,fallW_pw _ _,fun t ht=>?_⟩
 ·simp only [fallD,h.fd,if_true] at hn
  exact h.kd n (List.mem_of_mem_take hn)
 ·obtain ⟨i,hi,hl,rfl⟩:=fallW_mem ht
  simp only [lives,Bool.and_eq_true] at hl
  exact ⟨by simp only;omega,ris3_nil,ris3_nil,hl.1.symm,fun hc=>by cases hc⟩
end Go.Proofs.AI
namespace Go.Proofs.AI
open Go.RowKit Go.Proofs
set_option linter.unusedVariables false
set_option linter.unusedSimpArgs false
set_option maxRecDepth 100000
theorem EndIs_ok (n:Note) (tx:Int):FunOK Tryz.prog 89 2 [] [(0,kNoteS n),(1,k1 (.rp [.n .i64 tx]))] (·=[(2,kB (endP tx n))]):=by
 refine fun_to (E:=⟨tab,ctOf [],13,[],[(0,[1,2]),(1,[3])],[],[],[],[]⟩) tab_ok mixed Tryz.func89 rfl Tryz.ntmps89 (rvs:=[.tmp 3]) Tryz.results89 rfl fun hl=>?_
 refine cast (show (((n.tx==tx)=true->(n.kind==i_4)=endP tx n)/\((n.tx==tx)=false->false=endP tx n))=_ by kernel_rfl) ?_
 delta i_4
 simp only [zza,zzb,true_and,and_true,and_self,ne_eq,cI_app,cWrtO_app,cWrtS_app,cWrtO_1,cItemO_1,opr_ex,zcast,frz_nil,nil_map,Option.getD_none,Option.getD_some]
 exact ⟨fun h=>by simp [endP,h],fun h=>by simp [endP,h]⟩
def EndIs_c:Con Tryz.prog:=con0 [.lend] fun b:Note×Int=>EndIs_ok (b.1) (b.2)
theorem IndexEnd_ok (xs:List Note) (tx:Int):FunOK Tryz.prog 104 2 [] [(0,k1 (sNotes xs)),(1,k1 (.fn 89 [.rp [.n .i64 tx]]))] (·=[(2,kI (idxOf (endP tx) xs))]):=by
 refine fun_to (E:=⟨tab,ctOf [EndIs_c],19,[],[(0,[0,1]),(1,[0,1,7,8]),(2,[0,1,7,8,9]),(3,[0,1,5,7,8]),(4,[0,1,5,7,8,16]),(5,[4]),(6,[0,1,7,8]),(7,[4])],[(0,⟨Nat,fun x=>[(0,(k1 (.sh 72 (typ dNote eNoteS xs)))),(1,(k1 (.fn 89 ([CV.rp [CV.n .i64 tx]])))),(7,(k1 (.n .i64 ((↑xs.length:Int))))),(8,(k1 (.n .i64 (x:Int))))]⟩)],[],[],[]⟩) tab_ok mixed Tryz.func104 rfl Tryz.ntmps104 (rvs:=[.tmp 4]) Tryz.results104 rfl fun hl=>?_
 refine cast (show (let k_1:Prop:=cnR [CV.rp [cn_ tx]]=cnR [CV.rp [cn_ tx]];∃ (pre:Nat->Prop),∃ (μ:Nat->Nat),∃ (x0:Nat),(q_e xs xs/\k_1/\zi xs.length=zi xs.length/\i_0=zi x0)/\pre x0/\(∀ (x:Nat),pre x->(decide (zi x<zi xs.length)=true->(i_0<=zi x/\zi x<zi xs.length)/\(∃ (b:Note×Int),(((g_Note xs x).kind=b.1.kind/\(g_Note xs x).tx=b.1.tx/\q_S (g_Note xs x).locks b.1.locks/\q_c (g_Note xs x).writes b.1.writes)/\cnR [cn_ tx]=cnR [cn_ b.2])/\(endP b.2 b.1=true->zi x=idxOf (endP tx) xs)/\(endP b.2 b.1=false->∃ (y:Nat),(q_e xs xs/\k_1/\zi xs.length=zi xs.length/\wr_ ((zi x)+i_1)=zi y)/\pre y/\μ y<μ x)))/\(decide (zi x<zi xs.length)=false->(-1:Int)=idxOf (endP tx) xs)))=_ by kernel_rfl) ?_
 delta i_0 i_1 wr_ zi t_c q_c cn_ t_S q_S g_Note t_e q_e
 have hx:xs.length<=9223372036854775807:=hl.1 _ (List.mem_singleton.2 rfl)
 simp only [zza,zzb,true_and,and_true,and_self,ne_eq,cI_app,cWrtO_app,cWrtS_app,cWrtO_1,cItemO_1,opr_ex,zcast,frz_nil,nil_map,Option.getD_none,Option.getD_some]
 refine ⟨fun i=>i<=xs.length/\∀ j,j<i->endP tx (xs.getD j dNote)=false,⟨by simp,fun j hj=>absurd hj (Nat.not_lt_zero _)⟩,fun i=>xs.length-i,fun i hi=>?_⟩
 obtain ⟨h1,h2⟩:=hi
 refine ⟨fun hlt=>⟨by omega,by omega,tx,rfl,fun hp=>?_,fun hp=>⟨i+1,wrapN (by omega),⟨by omega,below_succ h2 (by simpa using hp)⟩,by simp only;omega⟩⟩,fun hge=>?_⟩
 ·exact (idx_hit (p:=endP tx) (d:=dNote) (by omega) (by simpa using hp) h2).symm
 ·exact (idx_miss (p:=endP tx) (d:=dNote) fun j hj=>h2 j (by omega)).symm
def IndexEnd_c:Con Tryz.prog:=con0 [.lend,.lend] fun b:List Note×Int=>IndexEnd_ok (b.1) (b.2)
theorem ContainsEnd_ok (xs:List Note) (tx:Int):FunOK Tryz.prog 52 2 [] [(0,k1 (sNotes xs)),(1,k1 (.fn 89 [.rp [.n .i64 tx]]))] (·=[(2,kB (xs.any (endP tx)))]):=by
 refine fun_to (E:=⟨tab,ctOf [IndexNote_c],9,[],[(0,[0,1]),(1,[4])],[],[],[],[(1,[IndexEnd_c])]⟩) tab_ok mixed Tryz.func52 rfl Tryz.ntmps52 (rvs:=[.tmp 4]) Tryz.results52 rfl fun hl=>?_
 refine cast (show (∃ (b:List Note×Int),(q_e xs b.1/\cnR [CV.rp [cn_ tx]]=cnR [CV.rp [cn_ b.2]])/\decide (idxOf (endP b.2) b.1≥i_0)=xs.any (endP tx))=_ by kernel_rfl) ?_
 delta i_0 cn_ t_e q_e
 simp only [zza,zzb,true_and,and_true,and_self,ne_eq,cI_app,cWrtO_app,cWrtS_app,cWrtO_1,cItemO_1,opr_ex,zcast,frz_nil,nil_map,Option.getD_none,Option.getD_some]
 exact ⟨tx,rfl,idx_ge _ _⟩
def ContainsEnd_c:Con Tryz.prog:=con0 [.lend,.lend] fun b:List Note×Int=>ContainsEnd_ok (b.1) (b.2)
theorem impl_FroFall_ok (f:Front) (keep:Int):FunOK Tryz.prog 36 2 [] [(0,kFrontS f),(1,kI keep)] (·=[(2,⟨.agg,[.c (sNotes (fallF f keep).disk.notes),.c (.n .i64 (fallF f keep).disk.safe),.c (oFTxs (fallF f keep).way)],[]⟩)]):=by
 refine fun_to (E:=⟨tab,ctOf [impl_FroOk_c,impl_DiskFall_c,ContainsNote_c,impl_of_c],43,[],[(0,[1,2,4,5,11,42]),(1,[1,2,4,5,10,11,42]),(2,[4,5,11,42]),(3,[4,5,11,42]),(4,[4,5,11,17,42]),(5,[4,5,11,17,18,42]),(6,[4,5,6,11,17,42]),(7,[4,5,6,7,11,17,42]),(8,[4,5,6,11,17,33,42]),(9,[4,5,11,17,42]),(10,[4,5,11,17,42]),(11,[4,5,11,42])],[(0,⟨List Note×Int×List FTx×Nat,fun x=>[(4,⟨.box,[.c (.ow 72 nilR),.c (.n .i64 ((0:Int))),.c (.ow 36 nilR)],[]⟩),(5,⟨.box,[.c (sNotes (x.1)),.c (.n .i64 (x.2.1)),.c (oFTxs (x.2.2.1))],[]⟩),(17,(k1 (.n .i64 (x.2.2.2:Int))))]⟩)],[(2,[(1,[11]),(2000001,[4])])],[],[(7,[ContainsEnd_c])]⟩) tab_ok mixed Tryz.func36 rfl Tryz.ntmps36 (rvs:=[.cell 4 28]) Tryz.results36 rfl fun hl=>?_
 refine cast (show (let k_1:Prop:=cnRs nilR=cnRs nilR/\i_0=i_0/\cnRs nilR=cnRs nilR;∃ (b:Front),(q_e f.disk.notes b.disk.notes/\f.disk.safe=b.disk.safe/\q_h f.way b.way)/\((!froB b)=true->cnRs (frozenRs nilR)=t_e (fallF f keep).disk.notes/\i_0=(fallF f keep).disk.safe/\cnRs (frozenRs nilR)=t_j (fallF f keep).way)/\((!froB b)=false->∃ (b:Disk×Int),((q_e f.disk.notes b.1.notes/\f.disk.safe=b.1.safe)/\keep=b.2)/\(∃ (pre:y_22->Prop),∃ (μ:y_22->Nat),∃ (x0:y_22),(k_1/\(q_e (fallD b.1 b.2).notes x0.1/\(fallD b.1 b.2).safe=x0.2.1/\cnRs nilR=t_j x0.2.2.1)/\i_0=zi x0.2.2.2)/\pre x0/\(∀ (x:y_22),let k_2:Prop:=∃ (y:y_22),(k_1/\(q_e x.1 y.1/\x.2.1=y.2.1/\q_j x.2.2.1 y.2.2.1)/\wr_ ((zi x.2.2.2)+i_1)=zi y.2.2.2)/\pre y/\μ y<μ x;pre x->(decide (zi x.2.2.2<i_30)=true->True/\(∃ (b:List Note×Int),(q_e x.1 b.1/\cnR [CV.rp [cn_ (zi x.2.2.2)]]=cnR [CV.rp [cn_ b.2]])/\((!b.1.any (endP b.2))=true->∃ (b:Disk×Int),((q_e x.1 b.1.notes/\x.2.1=b.1.safe)/\zi x.2.2.2=b.2)/\((ofN b.1.notes b.2==i_2)=true->(x.2.2.1.length+n_1)*n_120<=n_140737488355328/\(∃ (y:y_22),(k_1/\(q_e x.1 y.1/\x.2.1=y.2.1/\cnRs (appR (typ dFTx eFTxO x.2.2.1) (raw [[cn_ (zi x.2.2.2),cn_ i_0,cn_ i_0,cn_ i_0,cn_ i_0,cn_ i_0,cn_ i_0,cn_ i_0,CV.b true,CV.ow n_3 nilR,CV.ow n_3 nilR]]))=t_j y.2.2.1)/\wr_ ((zi x.2.2.2)+i_1)=zi y.2.2.2)/\pre y/\μ y<μ x))/\((ofN b.1.notes b.2==i_2)=false->k_2))/\((!b.1.any (endP b.2))=false->k_2)))/\(decide (zi x.2.2.2<i_30)=false->q_e x.1 (fallF f keep).disk.notes/\x.2.1=(fallF f keep).disk.safe/\q_j x.2.2.1 (fallF f keep).way)))))=_ by kernel_rfl) ?_
 delta i_0 i_1 i_2 wr_ zi n_140737488355328 n_1 n_3 cn_ i_30 t_e q_e n_120 t_h q_h t_j q_j y_22
 simp only [zza,zzb,true_and,and_true,and_self,ne_eq,cI_app,cWrtO_app,cWrtS_app,cWrtO_1,cItemO_1,opr_ex,zcast,frz_nil,nil_map,Option.getD_none,Option.getD_some]
 refine ⟨fun h=>by simp at h;simp [fallF,h],fun h=>?_⟩
 have h:froB f=true:=by simpa only [Bool.not_eq_false'] using h
 simp only [fallF,h,if_true]
 generalize fallD f.disk keep=D at *
 refine ⟨fun z=>z.1=D.notes/\z.2.1=D.safe/\z.2.2.2<=30/\z.2.2.1=fallW D.notes z.2.2.2,⟨rfl,rfl,Nat.zero_le _,rfl⟩,fun z=>30-z.2.2.2,fun a1 a2 a3 b hp=>?_⟩
 simp only at hp
 obtain ⟨rfl,rfl,h1,h2⟩:=hp
 have hl2:=fallW_len D.notes b
 rw [<- h2] at hl2
 have go:b<30->∀ v,v=(if lives D.notes (b:Int)=true then a3++[⟨(b:Int),dOpr,true,[],[]⟩] else a3)->∃ y:Nat,IntKind.i64.wrap ((b:Int)+1)=(y:Int)/\(D.notes=D.notes/\D.safe=D.safe/\y<=30/\v=fallW D.notes y)/\30-y<30-b:=fun hlt v hv =>
  ⟨b+1,wrapN (by omega),⟨rfl,rfl,by omega,by rw [fallW_succ,<- h2];exact hv⟩,by omega⟩
 refine ⟨fun hlt=>⟨b,rfl,fun e1=>⟨fun e2=>⟨by omega,a3++[⟨(b:Int),dOpr,true,[],[]⟩],by simp [dOpr],go (by omega) _ ?_⟩,fun e2=>go (by omega) _ ?_⟩,fun e1=>go (by omega) _ ?_⟩,fun hge=>?_⟩
 ·rw [if_pos (by simp only [lives,e2,e1];rfl)];rfl
 ·rw [if_neg];simp only [lives,beq_eq_false_iff_ne.2 e2];simp
 ·rw [if_neg];simp only [lives,e1];simp
 ·have:b=30:=by omega
  subst this
  exact ⟨rfl,rfl,h2⟩
def impl_FroFall_c:Con Tryz.prog:=con0 [.lend,.lend] fun b:Front×Int=>impl_FroFall_ok (b.1) (b.2)
end Go.Proofs.AI
namespace Go.Proofs.AI
open Go.RowKit Go.Proofs
set_option linter.unusedVariables false
set_option linter.unusedSimpArgs false
set_option maxRecDepth 100000
theorem laws_jaFront_ok (a:Front) (b:Front):FunOK Tryz.prog 37 2 [] [(0,kFrontS a),(1,kFrontS b)] (·=[(2,kB (decide (a=b)))]):=by
 refine fun_to (E:=⟨tabM,ctOf [laws_jaDisk_c,laws_jaInts_c],75,[],[(0,[2,3]),(1,[2,3,22]),(2,[4]),(3,[2,3,5]),(4,[2,3,5,27]),(5,[2,3,5]),(6,[2,3,5,6]),(7,[2,3,5,6,7]),(8,[2,3,5,74]),(9,[4]),(10,[4])],[(0,⟨List Note×Int×List FTx×Nat,fun x=>[(2,⟨.box,[.c (.sh 72 (typ dNote eNoteS a.disk.notes)),.c (.n .i64 a.disk.safe),.c (.sh 36 (typ dFTx eFTxS a.way))],[]⟩),(3,⟨.box,[.c (sNotes (x.1)),.c (.n .i64 (x.2.1)),.c (sFTxs (x.2.2.1))],[]⟩),(5,(k1 (.n .i64 (x.2.2.2:Int))))]⟩)],[],[],[]⟩) tabM_ok mixed Tryz.func37 rfl Tryz.ntmps37 (rvs:=[.tmp 4]) Tryz.results37 rfl fun hl=>?_
 refine cast (show (let k_1:Prop:=q_e a.disk.notes a.disk.notes/\a.disk.safe=a.disk.safe/\q_h a.way a.way;∃ (b_1:Disk×Disk),((q_e a.disk.notes b_1.1.notes/\a.disk.safe=b_1.1.safe)/\q_e b.disk.notes b_1.2.notes/\b.disk.safe=b_1.2.safe)/\((!decide (b_1.1=b_1.2))=false->(((zi a.way.length) != zi b.way.length)=true->false=decide (a=b))/\(((zi a.way.length) != zi b.way.length)=false->∃ (pre:y_22->Prop),∃ (μ:y_22->Nat),∃ (x0:y_22),(k_1/\(q_e b.disk.notes x0.1/\b.disk.safe=x0.2.1/\q_h b.way x0.2.2.1)/\i_0=zi x0.2.2.2)/\pre x0/\(∀ (x:y_22),pre x->(decide (zi x.2.2.2<zi a.way.length)=true->(i_0<=zi x.2.2.2/\zi x.2.2.2<zi a.way.length)/\(i_0<=zi x.2.2.2/\zi x.2.2.2<zi x.2.2.1.length)/\(((g_FTx a.way x.2.2.2).tx != (g_FTx x.2.2.1 x.2.2.2).tx)=false->((if true=true then !((g_FTx a.way x.2.2.2).op.kind==(g_FTx x.2.2.1 x.2.2.2).op.kind&&((g_FTx a.way x.2.2.2).op.who==(g_FTx x.2.2.1 x.2.2.2).op.who&&((g_FTx a.way x.2.2.2).op.inn==(g_FTx x.2.2.1 x.2.2.2).op.inn&&((g_FTx a.way x.2.2.2).op.code==(g_FTx x.2.2.1 x.2.2.2).op.code&&((g_FTx a.way x.2.2.2).op.sec==(g_FTx x.2.2.1 x.2.2.2).op.sec&&((g_FTx a.way x.2.2.2).op.fam==(g_FTx x.2.2.1 x.2.2.2).op.fam&&(g_FTx a.way x.2.2.2).op.gen==(g_FTx x.2.2.1 x.2.2.2).op.gen)))))) else (g_FTx a.way x.2.2.2).op.kind==(g_FTx x.2.2.1 x.2.2.2).op.kind&&((g_FTx a.way x.2.2.2).op.who==(g_FTx x.2.2.1 x.2.2.2).op.who&&((g_FTx a.way x.2.2.2).op.inn==(g_FTx x.2.2.1 x.2.2.2).op.inn&&((g_FTx a.way x.2.2.2).op.code==(g_FTx x.2.2.1 x.2.2.2).op.code&&((g_FTx a.way x.2.2.2).op.sec==(g_FTx x.2.2.1 x.2.2.2).op.sec&&((g_FTx a.way x.2.2.2).op.fam==(g_FTx x.2.2.1 x.2.2.2).op.fam&&(g_FTx a.way x.2.2.2).op.gen==(g_FTx x.2.2.1 x.2.2.2).op.gen))))))=false->((if true=true then !(g_FTx a.way x.2.2.2).yes==(g_FTx x.2.2.1 x.2.2.2).yes else (g_FTx a.way x.2.2.2).yes==(g_FTx x.2.2.1 x.2.2.2).yes)=false->∃ (b_2:y_10),(q_I (g_FTx a.way x.2.2.2).can b_2.1/\q_I (g_FTx x.2.2.1 x.2.2.2).can b_2.2)/\((!decide (b_2.1=b_2.2))=false->∃ (b_3:y_10),(q_I (g_FTx a.way x.2.2.2).know b_3.1/\q_I (g_FTx x.2.2.1 x.2.2.2).know b_3.2)/\((!decide (b_3.1=b_3.2))=true->false=decide (a=b))/\((!decide (b_3.1=b_3.2))=false->∃ (y:y_22),(k_1/\(q_e x.1 y.1/\x.2.1=y.2.1/\q_h x.2.2.1 y.2.2.1)/\wr_ ((zi x.2.2.2)+i_1)=zi y.2.2.2)/\pre y/\μ y<μ x))/\((!decide (b_2.1=b_2.2))=true->false=decide (a=b)))/\((if true=true then !(g_FTx a.way x.2.2.2).yes==(g_FTx x.2.2.1 x.2.2.2).yes else (g_FTx a.way x.2.2.2).yes==(g_FTx x.2.2.1 x.2.2.2).yes)=true->false=decide (a=b)))/\((if true=true then !((g_FTx a.way x.2.2.2).op.kind==(g_FTx x.2.2.1 x.2.2.2).op.kind&&((g_FTx a.way x.2.2.2).op.who==(g_FTx x.2.2.1 x.2.2.2).op.who&&((g_FTx a.way x.2.2.2).op.inn==(g_FTx x.2.2.1 x.2.2.2).op.inn&&((g_FTx a.way x.2.2.2).op.code==(g_FTx x.2.2.1 x.2.2.2).op.code&&((g_FTx a.way x.2.2.2).op.sec==(g_FTx x.2.2.1 x.2.2.2).op.sec&&((g_FTx a.way x.2.2.2).op.fam==(g_FTx x.2.2.1 x.2.2.2).op.fam&&(g_FTx a.way x.2.2.2).op.gen==(g_FTx x.2.2.1 x.2.2.2).op.gen)))))) else (g_FTx a.way x.2.2.2).op.kind==(g_FTx x.2.2.1 x.2.2.2).op.kind&&((g_FTx a.way x.2.2.2).op.who==(g_FTx x.2.2.1 x.2.2.2).op.who&&((g_FTx a.way x.2.2.2).op.inn==(g_FTx x.2.2.1 x.2.2.2).op.inn&&((g_FTx a.way x.2.2.2).op.code==(g_FTx x.2.2.1 x.2.2.2).op.code&&((g_FTx a.way x.2.2.2).op.sec==(g_FTx x.2.2.1 x.2.2.2).op.sec&&((g_FTx a.way x.2.2.2).op.fam==(g_FTx x.2.2.1 x.2.2.2).op.fam&&(g_FTx a.way x.2.2.2).op.gen==(g_FTx x.2.2.1 x.2.2.2).op.gen))))))=true->false=decide (a=b)))/\(((g_FTx a.way x.2.2.2).tx != (g_FTx x.2.2.1 x.2.2.2).tx)=true->false=decide (a=b)))/\(decide (zi x.2.2.2<zi a.way.length)=false->true=decide (a=b)))))/\((!decide (b_1.1=b_1.2))=true->false=decide (a=b)))=_ by kernel_rfl) ?_
 delta i_0 i_1 wr_ zi t_I q_I y_10 t_e q_e g_FTx t_h q_h y_22
 simp only [zza,zzb,true_and,and_true,and_self,ne_eq,cI_app,cWrtO_app,cWrtS_app,cWrtO_1,cItemO_1,opr_ex,zcast,frz_nil,nil_map,wayEq_self,Option.getD_none,Option.getD_some]
 have hx:a.way.length<=9223372036854775807:=hl.1 (.c (sFTxs a.way)) (by simp)
 simp only [if_true]
 refine ⟨fun h1=>⟨fun h2=>?_,fun h2=>?_⟩,fun h1=>?_⟩
 ·exact (decide_eq_false fun he=>h2 (by rw [he])).symm
 rotate_left
 ·exact (decide_eq_false fun he=>by subst he;simp at h1).symm
 have hd:a.disk=b.disk:=by simpa using h1
 have hlen:=len_ne h2
 refine ⟨fun z=>z.1=b.disk.notes/\z.2.1=b.disk.safe/\z.2.2.1=b.way/\z.2.2.2<=a.way.length/\∀ j,j<z.2.2.2->a.way.getD j dFTx=b.way.getD j dFTx,⟨rfl,rfl,rfl,by simp only;omega,fun j hj=>absurd hj (Nat.not_lt_zero _)⟩,fun z=>a.way.length-z.2.2.2,fun c1 c2 c3 i hp=>?_⟩
 simp only at hp
 obtain ⟨rfl,rfl,rfl,h3,h4⟩:=hp
 have no:a.way.getD i dFTx≠b.way.getD i dFTx->false=decide (a=b):=fun h=>(decide_eq_false fun he=>h (by rw [he])).symm
 have go:i<a.way.length->a.way.getD i dFTx=b.way.getD i dFTx->∃ x:Nat,IntKind.i64.wrap ((i:Int)+1)=(x:Int)/\(b.disk.notes=b.disk.notes/\b.disk.safe=b.disk.safe/\b.way=b.way/\x<=a.way.length/\∀ j,j<x->a.way.getD j dFTx=b.way.getD j dFTx)/\a.way.length-x<a.way.length-i:=fun hlt e =>
  ⟨i+1,wrapN (by omega),⟨rfl,rfl,rfl,by omega,below_succ h4 e⟩,by omega⟩
 refine ⟨fun hlt=>⟨by omega,hlt,by omega,by omega,?_⟩,fun hge=>(decide_eq_true (Front_ext hd (ext_getD (d:=dFTx) hlen fun j hj=>h4 j (by omega)))).symm⟩
 have go:=go (by omega)
 clear h4
 generalize a.way.getD i dFTx=X at *
 generalize b.way.getD i dFTx=Y at *
 refine ⟨fun e1=>⟨fun e2=>⟨fun e3=>⟨fun e4=>⟨fun e5=>no ?_,fun e5=>go ?_⟩,fun e4=>no ?_⟩,fun e3=>no ?_⟩,fun e2=>no ?_⟩,fun e1=>no ?_⟩
 ·rintro rfl;simp at e5
 ·obtain ⟨x1,⟨k1,k2,k3,k4,k5,k6,k7⟩,x3,x4,x5⟩:=X
  obtain ⟨y1,⟨l1,l2,l3,l4,l5,l6,l7⟩,y3,y4,y5⟩:=Y
  simp at e1 e2 e3 e4 e5
  simp [e1,e2,e3,e4,e5]
 ·rintro rfl;simp at e4
 ·rintro rfl;simp at e3
 ·rintro rfl;simp at e2
 ·rintro rfl;simp at e1
def laws_jaFront_c:Con Tryz.prog:=con0 [.lend,.lend] fun b:Front×Front=>laws_jaFront_ok (b.1) (b.2)
end Go.Proofs.AI
namespace Go.Proofs.AI
open Go.RowKit Go.Proofs
set_option linter.unusedVariables false
set_option linter.unusedSimpArgs false
set_option maxRecDepth 100000
def fallDr (l:List Int):Front×Int:=((frontD l 0 9).1,pickB l (frontD l 0 9).2 5-1)
theorem spec_DrawFroFall_ok (l:List Int) (hpre:okU l):FunOK Tryz.prog 35 1 [] [(0,k1 (sU l))] (·=[(1,⟨.tup [(true,3),(false,1)],[.c (oNotes (fallDr (l.take 2000)).1.disk.notes),.c (.n .i64 (fallDr (l.take 2000)).1.disk.safe),.c (oFTxs (fallDr (l.take 2000)).1.way),.c (.n .i64 (fallDr (l.take 2000)).2)],[]⟩)]):=by
 refine fun_to (E:=⟨tab,ctOf [spec_l20Front_c,spec_l20Open_c,spec_rd_pick_c],12,[],[(0,[0,2,8]),(1,[2,4,6,8]),(2,[2,3,8])],[],[],[],[]⟩) tab_ok mixed Tryz.func35 rfl Tryz.ntmps35 (rvs:=[.cell 2 28,.tmp 3]) Tryz.results35 rfl fun hl=>?_
 refine cast (show (∃ (b:List Int),q_U l b/\∃ (b_1:y_6),((q_U (List.take n_2000 b) b_1.1/\zi n_0=zi b_1.2.1)/\i_9=b_1.2.2)/\(rdB b_1.1 b_1.2.1 n_4000/\b_1.2.2<i_1000000)/\∃ (b:y_6),((q_U b_1.1 b.1/\(zi (frontD b_1.1 b_1.2.1 b_1.2.2).2)=zi b.2.1)/\i_5=b.2.2)/\rdB b.1 b.2.1 n_1/\q_f (frontD b_1.1 b_1.2.1 b_1.2.2).1.disk.notes (fallDr (List.take n_2000 l)).1.disk.notes/\(frontD b_1.1 b_1.2.1 b_1.2.2).1.disk.safe=(fallDr (List.take n_2000 l)).1.disk.safe/\q_j (frontD b_1.1 b_1.2.1 b_1.2.2).1.way (fallDr (List.take n_2000 l)).1.way/\wr_ (pickB b.1 b.2.1 b.2.2-i_1)=(fallDr (List.take n_2000 l)).2)=_ by kernel_rfl) ?_
 delta i_9 i_1 i_5 wr_ zi n_0 n_1 i_1000000 t_U q_U n_2000 y_6 t_f q_f t_j q_j n_4000
 simp only [zza,zzb,true_and,and_true,and_self,ne_eq,cI_app,cWrtO_app,cWrtS_app,cWrtO_1,cItemO_1,opr_ex,zcast,frz_nil,nil_map,wayEq_self,Option.getD_none,Option.getD_some]
 have hr:rdB (l.take 2000) 0 4000:=⟨fun x hx=>hpre x (List.mem_of_mem_take hx),by omega⟩
 generalize l.take 2000=L at *
 have hd:=frontD_le 9 hr
 simp only [fallDr]
 generalize frontD L 0 9=A at *
 have b:=pick_lt (l:=L) (p:=A.2) (n:=5) (rdB_le hr (by omega):rdB L A.2 1) (by omega)
 exact ⟨hr,by omega,rdB_le hr (by omega),trivial,trivial,trivial,IntWalk.i64_in _ (by omega)⟩
def spec_DrawFroFall_c:Con Tryz.prog:=conP [.lend] fun (b:List Int) h=>spec_DrawFroFall_ok b h
end Go.Proofs.AI
namespace Go.Proofs.AI
open Go.RowKit Go.Proofs
set_option linter.unusedVariables false
set_option linter.unusedSimpArgs false
set_option maxRecDepth 100000
set_option pp.deepTerms true
set_option pp.maxSteps 40000
set_option pp.proofs true
theorem fall_ends {d:Disk} (h:diskB d=true) (keep:Int):(fallD d keep).safe=(fallD d keep).notes.length:=by
 obtain ⟨_,_,h3,_⟩:=diskB_small h
 simp only [fallD,h,if_true,List.length_take]
 omega
theorem fall_same {d:Disk} (h:diskB d=true) (hs:d.safe=d.notes.length):fallD d 0=d:=by
 obtain ⟨_,_,h3,_⟩:=diskB_small h
 simp only [fallD,h,if_true]
 have e:d.safe+max 0 (min 0 ((d.notes.length:Int)-d.safe))=d.notes.length:=by omega
 rw [e,Int.toNat_natCast,List.take_length,<- hs]
theorem fall_again {f:Front} (h:okF f) (keep:Int):fallF (fallF f keep) 0=fallF f keep:=by
 have hX:=fall_ok h keep
 have e:(fallF f keep).disk=fallD f.disk keep:=by simp only [fallF,froB_iff.2 h,if_true]
 have ew:(fallF f keep).way=fallW (fallF f keep).disk.notes 30:=by simp only [fallF,froB_iff.2 h,if_true]
 have es:=fall_ends h.fd keep
 rw [<- e] at es
 generalize fallF f keep=X at *
 simp only [fallF,froB_iff.2 hX,if_true,fall_same hX.fd es]
 rw [<- ew]
theorem fallW_any {ns:List Note} {a:Nat} (ha:a<30):((fallW ns 30).any fun t=>t.tx==(a:Int))=lives ns (a:Int):=by
 rw [Bool.eq_iff_iff,List.any_eq_true]
 refine ⟨fun ⟨t,ht,he⟩=>?_,fun h=>⟨⟨(a:Int),dOpr,true,[],[]⟩,?_,by simp⟩⟩
 ·obtain ⟨i,_,hl,rfl⟩:=fallW_mem ht
  have:(i:Int)=a:=by simpa using he
  have:i=a:=by omega
  subst this;exact hl
 ·exact List.mem_map.2 ⟨a,List.mem_filter.2 ⟨List.mem_range.2 ha,h⟩,rfl⟩
theorem laws_FnFroFall_ok (l:List Int) (hpre:okU l):FunOK Tryz.prog 6 1 [] [(0,k1 (sU l))] (·=[(1,kB true)]):=by
 refine fun_to (E:=⟨tab,ctOf [impl_FroOk_c,spec_FroOk_c,laws_jaOk_c,impl_DiskOf_c,spec_DrawFroFall_c,impl_FroFall_c,laws_jaFront_c,spec_FroFall_c,laws_jaDisk_c,impl_DiskFall_c],151,[],[(0,[0]),(1,[0,14]),(2,[2]),(3,[3,4]),(4,[3,4,5]),(5,[3,4,5,28]),(6,[2]),(7,[3,4,5,31]),(8,[2]),(9,[5,51]),(10,[2]),(11,[5,6]),(12,[5,6,56]),(13,[5,6]),(14,[5,6,83]),(15,[2]),(16,[5,7]),(17,[5,7,85]),(18,[5,7]),(19,[5,7,8]),(20,[5,7,8,9]),(21,[5,7,8,9,93]),(22,[5,7,8,9]),(23,[5,7,8,9]),(24,[5,7,8,10]),(25,[5,7,8,10,11]),(26,[5,7,8,10,11,122]),(27,[5,7,8,10,11]),(28,[5,7,8,10,11]),(29,[5,7,146]),(30,[2]),(31,[2])],[(0,⟨Nat,fun x=>[(5,⟨.box,[.c (.sh 72 (typ dNote eNoteS (fallF (fallDr (List.take (2000:Nat) l)).fst (fallDr (List.take (2000:Nat) l)).snd).disk.notes)),.c (.n .i64 ((fallF (fallDr (List.take (2000:Nat) l)).fst (fallDr (List.take (2000:Nat) l)).snd).disk.safe)),.c (.sh 36 (frozenRs (typ dFTx eFTxO (fallF (fallDr (List.take (2000:Nat) l)).fst (fallDr (List.take (2000:Nat) l)).snd).way)))],[]⟩),(6,(k1 (.n .i64 (x:Int))))]⟩),(2,⟨Nat,fun x=>[(5,⟨.box,[.c (.sh 72 (typ dNote eNoteS (fallF (fallDr (List.take (2000:Nat) l)).fst (fallDr (List.take (2000:Nat) l)).snd).disk.notes)),.c (.n .i64 ((fallF (fallDr (List.take (2000:Nat) l)).fst (fallDr (List.take (2000:Nat) l)).snd).disk.safe)),.c (.sh 36 (frozenRs (typ dFTx eFTxO (fallF (fallDr (List.take (2000:Nat) l)).fst (fallDr (List.take (2000:Nat) l)).snd).way)))],[]⟩),(7,(k1 (.n .i64 (x:Int))))]⟩),(4,⟨Nat×Bool×Nat,fun x=>[(5,⟨.box,[.c (.sh 72 (typ dNote eNoteS (fallF (fallDr (List.take (2000:Nat) l)).fst (fallDr (List.take (2000:Nat) l)).snd).disk.notes)),.c (.n .i64 ((fallF (fallDr (List.take (2000:Nat) l)).fst (fallDr (List.take (2000:Nat) l)).snd).disk.safe)),.c (.sh 36 (frozenRs (typ dFTx eFTxO (fallF (fallDr (List.take (2000:Nat) l)).fst (fallDr (List.take (2000:Nat) l)).snd).way)))],[]⟩),(7,(k1 (.n .i64 (x.1:Int)))),(8,(k1 (.b (x.2.1)))),(9,(k1 (.n .i64 (x.2.2:Int))))]⟩),(6,⟨Nat×Bool×Bool×Nat,fun x=>[(5,⟨.box,[.c (.sh 72 (typ dNote eNoteS (fallF (fallDr (List.take (2000:Nat) l)).fst (fallDr (List.take (2000:Nat) l)).snd).disk.notes)),.c (.n .i64 ((fallF (fallDr (List.take (2000:Nat) l)).fst (fallDr (List.take (2000:Nat) l)).snd).disk.safe)),.c (.sh 36 (frozenRs (typ dFTx eFTxO (fallF (fallDr (List.take (2000:Nat) l)).fst (fallDr (List.take (2000:Nat) l)).snd).way)))],[]⟩),(7,(k1 (.n .i64 (x.1:Int)))),(8,(k1 (.b (x.2.1)))),(10,(k1 (.b (x.2.2.1)))),(11,(k1 (.n .i64 (x.2.2.2:Int))))]⟩)],[(3,[(2,[17])]),(4,[(3,[22])])],[],[]⟩) tab_ok mixed Tryz.func6 rfl Tryz.ntmps6 (rvs:=[.tmp 2]) Tryz.results6 rfl fun hl=>?_
 refine cast (show (let k_1:Prop:=q_e (fallF (fallDr (List.take n_2000 l)).1 (fallDr (List.take n_2000 l)).2).disk.notes (fallF (fallDr (List.take n_2000 l)).1 (fallDr (List.take n_2000 l)).2).disk.notes/\(fallF (fallDr (List.take n_2000 l)).1 (fallDr (List.take n_2000 l)).2).disk.safe=(fallF (fallDr (List.take n_2000 l)).1 (fallDr (List.take n_2000 l)).2).disk.safe/\cnRs (frozenRs (typ dFTx eFTxO (fallF (fallDr (List.take n_2000 l)).1 (fallDr (List.take n_2000 l)).2).way))=cnRs (frozenRs (typ dFTx eFTxO (fallF (fallDr (List.take n_2000 l)).1 (fallDr (List.take n_2000 l)).2).way));(decide ((zi l.length)>i_1048576)=true->true=true)/\(decide ((zi l.length)>i_1048576)=false->∃ (b:List Int),q_U l b/\okU b/\(∃ (b_1:Front×Int),((cnRs (frozenRs (typ dNote eNoteO (fallDr (List.take n_2000 b)).1.disk.notes))=t_e b_1.1.disk.notes/\(fallDr (List.take n_2000 b)).1.disk.safe=b_1.1.disk.safe/\cnRs (frozenRs (typ dFTx eFTxO (fallDr (List.take n_2000 b)).1.way))=t_h b_1.1.way)/\(fallDr (List.take n_2000 b)).2=b_1.2)/\(∃ (b_2:Front×Int),((cnRs (frozenRs (typ dNote eNoteO (fallDr (List.take n_2000 b)).1.disk.notes))=t_e b_2.1.disk.notes/\(fallDr (List.take n_2000 b)).1.disk.safe=b_2.1.disk.safe/\cnRs (frozenRs (typ dFTx eFTxO (fallDr (List.take n_2000 b)).1.way))=t_h b_2.1.way)/\(fallDr (List.take n_2000 b)).2=b_2.2)/\(∃ (b_3:Front×Front),((q_e (fallF b_1.1 b_1.2).disk.notes b_3.1.disk.notes/\(fallF b_1.1 b_1.2).disk.safe=b_3.1.disk.safe/\cnRs (frozenRs (typ dFTx eFTxO (fallF b_1.1 b_1.2).way))=t_h b_3.1.way)/\cnRs (frozenRs (typ dNote eNoteO (fallF b_2.1 b_2.2).disk.notes))=t_e b_3.2.disk.notes/\(fallF b_2.1 b_2.2).disk.safe=b_3.2.disk.safe/\cnRs (frozenRs (typ dFTx eFTxO (fallF b_2.1 b_2.2).way))=t_h b_3.2.way)/\((!decide (b_3.1=b_3.2))=true->false=true)/\((!decide (b_3.1=b_3.2))=false->∃ (b_4:Front),(cnRs (frozenRs (typ dNote eNoteO (fallDr (List.take n_2000 b)).1.disk.notes))=t_e b_4.disk.notes/\(fallDr (List.take n_2000 b)).1.disk.safe=b_4.disk.safe/\cnRs (frozenRs (typ dFTx eFTxO (fallDr (List.take n_2000 b)).1.way))=t_h b_4.way)/\((!froB b_4)=true->(((zi (fallF b_1.1 b_1.2).way.length)==i_0)=true->∃ (b:Unit),True/\true=true)/\(((zi (fallF b_1.1 b_1.2).way.length)==i_0)=false->false=true))/\((!froB b_4)=false->∃ (b_5:Front),(q_e (fallF b_1.1 b_1.2).disk.notes b_5.disk.notes/\(fallF b_1.1 b_1.2).disk.safe=b_5.disk.safe/\cnRs (frozenRs (typ dFTx eFTxO (fallF b_1.1 b_1.2).way))=t_h b_5.way)/\((!froB b_5)=false->∃ (b_6:Disk×Int),((cnRs (frozenRs (typ dNote eNoteO (fallDr (List.take n_2000 b)).1.disk.notes))=t_e b_6.1.notes/\(fallDr (List.take n_2000 b)).1.disk.safe=b_6.1.safe)/\(fallDr (List.take n_2000 b)).2=b_6.2)/\(∃ (b:Disk×Disk),((q_e (fallF b_1.1 b_1.2).disk.notes b.1.notes/\(fallF b_1.1 b_1.2).disk.safe=b.1.safe)/\q_e (fallD b_6.1 b_6.2).notes b.2.notes/\(fallD b_6.1 b_6.2).safe=b.2.safe)/\((!decide (b.1=b.2))=true->false=true)/\((!decide (b.1=b.2))=false->∃ (pre:Nat->Prop),∃ (μ:Nat->Nat),∃ (x0:Nat),((q_e (fallF b_1.1 b_1.2).disk.notes (fallF (fallDr (List.take n_2000 l)).1 (fallDr (List.take n_2000 l)).2).disk.notes/\(fallF b_1.1 b_1.2).disk.safe=(fallF (fallDr (List.take n_2000 l)).1 (fallDr (List.take n_2000 l)).2).disk.safe/\cnRs (frozenRs (typ dFTx eFTxO (fallF b_1.1 b_1.2).way))=cnRs (frozenRs (typ dFTx eFTxO (fallF (fallDr (List.take n_2000 l)).1 (fallDr (List.take n_2000 l)).2).way)))/\i_0=zi x0)/\pre x0/\(∀ (x:Nat),let k_2:Prop:=i_0<=zi x/\zi x<(zi (fallF (fallDr (List.take n_2000 l)).1 (fallDr (List.take n_2000 l)).2).way.length);pre x->(decide (zi x<(zi (fallF (fallDr (List.take n_2000 l)).1 (fallDr (List.take n_2000 l)).2).way.length))=true->k_2/\((!(g_FTx (fallF (fallDr (List.take n_2000 l)).1 (fallDr (List.take n_2000 l)).2).way x).yes)=false->k_2/\k_2/\((wr_ ((zi (g_FTx (fallF (fallDr (List.take n_2000 l)).1 (fallDr (List.take n_2000 l)).2).way x).can.length)+(zi (g_FTx (fallF (fallDr (List.take n_2000 l)).1 (fallDr (List.take n_2000 l)).2).way x).know.length)) != i_0)=true->false=true)/\((wr_ ((zi (g_FTx (fallF (fallDr (List.take n_2000 l)).1 (fallDr (List.take n_2000 l)).2).way x).can.length)+(zi (g_FTx (fallF (fallDr (List.take n_2000 l)).1 (fallDr (List.take n_2000 l)).2).way x).know.length)) != i_0)=false->∃ (y:Nat),(k_1/\wr_ ((zi x)+i_1)=zi y)/\pre y/\μ y<μ x))/\((!(g_FTx (fallF (fallDr (List.take n_2000 l)).1 (fallDr (List.take n_2000 l)).2).way x).yes)=true->false=true))/\(decide (zi x<(zi (fallF (fallDr (List.take n_2000 l)).1 (fallDr (List.take n_2000 l)).2).way.length))=false->∃ (pre:Nat->Prop),∃ (μ:Nat->Nat),∃ (x0:Nat),(k_1/\i_0=zi x0)/\pre x0/\(∀ (x:Nat),pre x->(decide (zi x<=i_29)=true->∃ (pre_1:Nat×Bool×Nat->Prop),∃ (μ_1:Nat×Bool×Nat->Nat),∃ (x0:Nat×Bool×Nat),(k_1/\zi x=zi x0.1/\false=x0.2.1/\i_0=zi x0.2.2)/\pre_1 x0/\(∀ (x_1:Nat×Bool×Nat),let k_3:Prop:=i_0<=zi x_1.2.2/\zi x_1.2.2<(zi (fallF (fallDr (List.take n_2000 l)).1 (fallDr (List.take n_2000 l)).2).disk.notes.length);pre_1 x_1->(decide (zi x_1.2.2<(zi (fallF (fallDr (List.take n_2000 l)).1 (fallDr (List.take n_2000 l)).2).disk.notes.length))=true->(x_1.2.1=false->k_3/\(((g_Note (fallF (fallDr (List.take n_2000 l)).1 (fallDr (List.take n_2000 l)).2).disk.notes x_1.2.2).tx==zi x_1.1)=true->k_3/\(∃ (y:Nat×Bool×Nat),(k_1/\zi x_1.1=zi y.1/\((g_Note (fallF (fallDr (List.take n_2000 l)).1 (fallDr (List.take n_2000 l)).2).disk.notes x_1.2.2).kind==i_4)=y.2.1/\wr_ ((zi x_1.2.2)+i_1)=zi y.2.2)/\pre_1 y/\μ_1 y<μ_1 x_1))/\(((g_Note (fallF (fallDr (List.take n_2000 l)).1 (fallDr (List.take n_2000 l)).2).disk.notes x_1.2.2).tx==zi x_1.1)=false->∃ (y:Nat×Bool×Nat),(k_1/\zi x_1.1=zi y.1/\false=y.2.1/\wr_ ((zi x_1.2.2)+i_1)=zi y.2.2)/\pre_1 y/\μ_1 y<μ_1 x_1))/\(x_1.2.1=true->∃ (y:Nat×Bool×Nat),(k_1/\zi x_1.1=zi y.1/\true=y.2.1/\wr_ ((zi x_1.2.2)+i_1)=zi y.2.2)/\pre_1 y/\μ_1 y<μ_1 x_1))/\(decide (zi x_1.2.2<(zi (fallF (fallDr (List.take n_2000 l)).1 (fallDr (List.take n_2000 l)).2).disk.notes.length))=false->∃ (pre_2:y_34->Prop),∃ (μ_2:y_34->Nat),∃ (x0:y_34),(k_1/\zi x_1.1=zi x0.1/\x_1.2.1=x0.2.1/\false=x0.2.2.1/\i_0=zi x0.2.2.2)/\pre_2 x0/\(∀ (x_2:y_34),let k_4:Prop:=∃ (y:Nat),(k_1/\wr_ ((zi x_2.1)+i_1)=zi y)/\pre y/\μ y<μ x;pre_2 x_2->(decide (zi x_2.2.2.2<(zi (fallF (fallDr (List.take n_2000 l)).1 (fallDr (List.take n_2000 l)).2).way.length))=true->(x_2.2.2.1=false->(i_0<=zi x_2.2.2.2/\zi x_2.2.2.2<(zi (fallF (fallDr (List.take n_2000 l)).1 (fallDr (List.take n_2000 l)).2).way.length))/\(∃ (y:y_34),(k_1/\zi x_2.1=zi y.1/\x_2.2.1=y.2.1/\((g_FTx (fallF (fallDr (List.take n_2000 l)).1 (fallDr (List.take n_2000 l)).2).way x_2.2.2.2).tx==zi x_2.1)=y.2.2.1/\wr_ ((zi x_2.2.2.2)+i_1)=zi y.2.2.2)/\pre_2 y/\μ_2 y<μ_2 x_2))/\(x_2.2.2.1=true->∃ (y:y_34),(k_1/\zi x_2.1=zi y.1/\x_2.2.1=y.2.1/\true=y.2.2.1/\wr_ ((zi x_2.2.2.2)+i_1)=zi y.2.2.2)/\pre_2 y/\μ_2 y<μ_2 x_2))/\(decide (zi x_2.2.2.2<(zi (fallF (fallDr (List.take n_2000 l)).1 (fallDr (List.take n_2000 l)).2).way.length))=false->∃ (b:Disk×Int),((q_e (fallF (fallDr (List.take n_2000 l)).1 (fallDr (List.take n_2000 l)).2).disk.notes b.1.notes/\(fallF (fallDr (List.take n_2000 l)).1 (fallDr (List.take n_2000 l)).2).disk.safe=b.1.safe)/\zi x_2.1=b.2)/\(((if diskB b.1=true then ofN b.1.notes b.2 else i_0)==i_2)=true->((if true=true then !x_2.2.2.1==!x_2.2.1 else x_2.2.2.1==!x_2.2.1)=true->false=true)/\((if true=true then !x_2.2.2.1==!x_2.2.1 else x_2.2.2.1==!x_2.2.1)=false->k_4))/\(((if diskB b.1=true then ofN b.1.notes b.2 else i_0)==i_2)=false->((if true=true then !x_2.2.2.1==false else x_2.2.2.1==false)=true->false=true)/\((if true=true then !x_2.2.2.1==false else x_2.2.2.1==false)=false->k_4)))))))/\(decide (zi x<=i_29)=false->∃ (b:Front×Int),((q_e (fallF (fallDr (List.take n_2000 l)).1 (fallDr (List.take n_2000 l)).2).disk.notes b.1.disk.notes/\(fallF (fallDr (List.take n_2000 l)).1 (fallDr (List.take n_2000 l)).2).disk.safe=b.1.disk.safe/\cnRs (frozenRs (typ dFTx eFTxO (fallF (fallDr (List.take n_2000 l)).1 (fallDr (List.take n_2000 l)).2).way))=t_h b.1.way)/\i_0=b.2)/\(∃ (b_7:Front×Front),((q_e (fallF b.1 b.2).disk.notes b_7.1.disk.notes/\(fallF b.1 b.2).disk.safe=b_7.1.disk.safe/\cnRs (frozenRs (typ dFTx eFTxO (fallF b.1 b.2).way))=t_h b_7.1.way)/\q_e (fallF (fallDr (List.take n_2000 l)).1 (fallDr (List.take n_2000 l)).2).disk.notes b_7.2.disk.notes/\(fallF (fallDr (List.take n_2000 l)).1 (fallDr (List.take n_2000 l)).2).disk.safe=b_7.2.disk.safe/\cnRs (frozenRs (typ dFTx eFTxO (fallF (fallDr (List.take n_2000 l)).1 (fallDr (List.take n_2000 l)).2).way))=t_h b_7.2.way)/\decide (b_7.1=b_7.2)=true))))))))/\((!froB b_5)=true->false=true))))))))=_ by kernel_rfl) ?_
 delta i_0 i_1 i_2 i_4 wr_ zi t_U q_U n_2000 i_29 g_Note t_e q_e g_FTx t_h i_1048576 y_34
 simp (config:={ maxSteps:=2000000 }) only [zza,zzb,true_and,and_true,and_self,ne_eq,cI_app,cWrtO_app,cWrtS_app,cWrtO_1,cItemO_1,opr_ex,zcast,frz_nil,nil_map,wayEq_self,Option.getD_none,Option.getD_some,if_true]
 intro _
 refine ⟨hpre,fun h=>by simp at h,fun _=>?_⟩
 generalize (fallDr (List.take 2000 l)).1=f
 generalize (fallDr (List.take 2000 l)).2=kp
 refine ⟨fun h=>⟨fun _=>⟨(),trivial⟩,fun h2=>?_⟩,fun h=>?_⟩
 ·have e:(fallF f kp).way=[]:=by simp at h;simp [fallF,h]
  rw [e] at h2;simp at h2
 have h:froB f=true:=by simpa only [Bool.not_eq_false'] using h
 have hf:=froB_iff.1 h
 have hX:=fall_ok hf kp
 have ed:(fallF f kp).disk=fallD f.disk kp:=by simp only [fallF,h,if_true]
 have ew:(fallF f kp).way=fallW (fallF f kp).disk.notes 30:=by simp only [fallF,h,if_true]
 have ex:=fall_again hf kp
 have hall:∀ t∈(fallF f kp).way,t.yes=true/\t.can=[]/\t.know=[]:=by
  rw [ew];intro t ht;obtain ⟨i,_,_,rfl⟩:=fallW_mem ht;exact ⟨rfl,rfl,rfl⟩
 generalize fallF f kp=X at *
 have hxl:=hX.wl
 have hnl:=(diskB_small hX.fd).2.1
 refine ⟨fun h1=>⟨fun h2=>by rw [ed] at h2;simp at h2,fun h2=>?_⟩,fun h1=>by rw [froB_iff.2 hX] at h1;simp at h1⟩
 refine ⟨fun i=>i<=X.way.length,by simp,fun i=>X.way.length-i,fun i hi=>⟨fun hlt=>?_,fun hge=>?_⟩⟩
 ·have hq:=hall _ (getD_mem' (d:=dFTx) (show i<X.way.length by omega))
  refine ⟨by omega,hlt,fun _=>⟨by omega,hlt,by omega,hlt,fun hn=>?_,fun _=>⟨i+1,wrapN (by omega),by simp only;omega,by simp only;omega⟩⟩,fun h=>by rw [hq.1] at h;simp at h⟩
  rw [hq.2.1,hq.2.2] at hn
  exact absurd (IntWalk.i64_in _ (by simp)) hn
 ·refine ⟨fun i=>i<=30,by simp,fun i=>30-i,fun i hi3=>⟨fun hle=>?_,fun _=>ex⟩⟩
  refine ⟨fun z=>z.1=i/\z.2.2<=X.disk.notes.length/\z.2.1=(X.disk.notes.take z.2.2).any (endP i),⟨rfl,by simp,by simp⟩,fun z=>X.disk.notes.length-z.2.2,fun a e b hp=>?_⟩
  simp only at hp
  obtain ⟨rfl,q1,q2⟩:=hp
  have hs:b<X.disk.notes.length->(X.disk.notes.take (b+1)).any (endP a)=(e||endP a (X.disk.notes.getD b dNote)):=fun hj=>by
   rw [take_succ (d:=dNote) hj,List.any_append,<- q2];simp
  have go:b<X.disk.notes.length->∀ v,v=(e||endP a (X.disk.notes.getD b dNote))->∃ y:Nat,IntKind.i64.wrap ((b:Int)+1)=(y:Int)/\(a=a/\y<=X.disk.notes.length/\v=(X.disk.notes.take y).any (endP a))/\X.disk.notes.length-y<X.disk.notes.length-b:=fun hj v hv =>
   ⟨b+1,wrapN (by omega),⟨rfl,by omega,by rw [hs hj];exact hv⟩,by omega⟩
  refine ⟨fun hlt=>⟨fun e1=>⟨by omega,hlt,fun e2=>⟨by omega,hlt,go (by omega) _ ?_⟩,fun e2=>go (by omega) _ ?_⟩,fun e1=>go (by omega) _ ?_⟩,fun hge2=>?_⟩
  ·simp only [e1,endP,e2,beq_self_eq_true,Bool.true_and,Bool.false_or];rfl
  ·have:((X.disk.notes.getD b dNote).tx==(a:Int))=false:=beq_eq_false_iff_ne.2 e2
   simp only [e1,endP,this,Bool.false_and,Bool.or_self]
  ·simp only [e1,Bool.true_or]
  have hj:b=X.disk.notes.length:=by omega
  rw [hj,List.take_length] at q2
  refine ⟨fun z=>z.1=a/\z.2.1=e/\z.2.2.2<=X.way.length/\z.2.2.1=(X.way.take z.2.2.2).any (fun t=>t.tx==(a:Int)),⟨rfl,rfl,by simp,by simp⟩,fun z=>X.way.length-z.2.2.2,fun a2 e2 w b2 hq=>?_⟩
  simp only at hq
  obtain ⟨rfl,rfl,r1,r2⟩:=hq
  have go2:b2<X.way.length->∀ v,v=(w||((X.way.getD b2 dFTx).tx==(a2:Int)))->∃ y:Nat,IntKind.i64.wrap ((b2:Int)+1)=(y:Int)/\(a2=a2/\e2=e2/\y<=X.way.length/\v=(X.way.take y).any (fun t=>t.tx==(a2:Int)))/\X.way.length-y<X.way.length-b2:=fun hj v hv =>
   ⟨b2+1,wrapN (by omega),⟨rfl,rfl,by omega,by rw [take_succ (d:=dFTx) hj,List.any_append,<- r2,hv];simp⟩,by omega⟩
  refine ⟨fun hlt=>⟨fun e3=>⟨by omega,hlt,go2 (by omega) _ (by rw [e3,Bool.false_or]<;>rfl)⟩,fun e3=>go2 (by omega) _ (by rw [e3,Bool.true_or])⟩,fun hge3=>?_⟩
  have hj2:b2=X.way.length:=by omega
  rw [hj2,List.take_length,ew,fallW_any (by omega)] at r2
  rw [if_pos hX.fd]
  have nx:∃ y:Nat,IntKind.i64.wrap ((a2:Int)+1)=(y:Int)/\y<=30/\30-y<30-a2:=⟨a2+1,wrapN (by omega),by omega,by omega⟩
  refine ⟨fun h3=>⟨fun h4=>?_,fun _=>nx⟩,fun h3=>⟨fun h4=>?_,fun _=>nx⟩⟩
  ·simp only [lives,h3,<- q2] at r2;rw [r2] at h4;cases e2<;>simp at h4
  ·have:(ofN X.disk.notes (a2:Int)==2)=false:=beq_eq_false_iff_ne.2 h3
   simp only [lives,this,Bool.false_and] at r2;rw [r2] at h4;simp at h4
end Go.Proofs.AI
