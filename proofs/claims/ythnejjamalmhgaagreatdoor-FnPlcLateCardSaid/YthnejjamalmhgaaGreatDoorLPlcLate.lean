/- What the function of this law does, in data. Conditions: none. -/
import Derived.KernelRfl
import Derived.Test.YthnejjamalmhgaaGreatDoorK05
namespace Go.Proofs.AI
open Go.RowKit Go.Proofs
set_option linter.unusedVariables false
set_option linter.unusedSimpArgs false
set_option maxRecDepth 100000
theorem impl_DiskOf_ok (d:Disk) (tx:Int):FunOK Tryz.prog 27 2 [] [(0,kDiskS d),(1,kI tx)] (·=[(2,kI (if diskB d=true then ofN d.notes tx else 0))]):=by
 refine fun_to (E:=⟨tab,ctOf [impl_DiskOk_c,impl_of_c],11,[],[(0,[1,2]),(1,[1,2,7]),(2,[4]),(3,[4])],[],[],[],[]⟩) tab_ok mixed Tryz.func27 rfl Tryz.ntmps27 (rvs:=[.tmp 4]) Tryz.results27 rfl fun hl=>?_
 refine cast (show (∃ (b:Disk),(q_e d.notes b.notes/\d.safe=b.safe)/\((!diskB b)=true->i_0=if diskB d=true then ofN d.notes tx else i_0)/\((!diskB b)=false->∃ (b:Disk×Int),((q_e d.notes b.1.notes/\d.safe=b.1.safe)/\tx=b.2)/\ofN b.1.notes b.2=if diskB d=true then ofN d.notes tx else i_0))=_ by kernel_rfl) ?_
 delta i_0 t_e q_e
 simp only [zza,zzb,true_and,and_true,and_self,ne_eq,cI_app,cWrtO_app,cWrtS_app,cWrtO_1,cItemO_1,opr_ex,zcast,frz_nil,nil_map,Option.getD_none,Option.getD_some]
 refine ⟨fun h=>?_,fun h=>?_⟩
 ·have h:diskB d=false:=by simpa only [Bool.not_eq_true'] using h
  rw [if_neg (by rw [h];decide)]
 ·have h:diskB d=true:=by simpa only [Bool.not_eq_false'] using h
  rw [if_pos h]
def impl_DiskOf_c:Con Tryz.prog:=con0 [.lend,.lend] fun b:Disk×Int=>impl_DiskOf_ok (b.1) (b.2)
end Go.Proofs.AI
namespace Go.Proofs.AI
set_option linter.unusedVariables false
set_option linter.unusedSimpArgs false
theorem msg_told {k p tx:Int} (hk:k=2∨k=3) (hp:inR p 1 3=true) (ht:inR tx 0 29=true):msgB ⟨k,p,0,tx,⟨0,0,0,0,0,0,0⟩⟩=true:=by
 have:(⟨0,0,0,0,0,0,0⟩:Opr)=dOpr:=rfl
 simp only [msgB,ht,this]
 rcases hk with rfl | rfl<;>simp [hp]
theorem msg_tx {m:Msg} (h:msgB m=true):inR m.tx 0 29=true:=by
 simp only [msgB,Bool.and_eq_true] at h;exact h.1
end Go.Proofs.AI
namespace Go.Proofs.AI
open Go.RowKit Go.Proofs
set_option linter.unusedVariables false
set_option linter.unusedSimpArgs false
set_option maxRecDepth 100000
theorem laws_FnPlcLate_ok (l:List Int) (hpre:okU l):FunOK Tryz.prog 4 1 [] [(0,k1 (sU l))] (·=[(1,kB true)]):=by
 refine fun_to (E:=⟨tab,ctOf [spec_PlcHear_c,impl_PlcHear_c,spec_DrawPlcHear_c,laws_jaDisk_c,spec_DiskOk_c,spec_MsgOk_c,laws_jaOk_c,impl_DiskOf_c],122,[],[(0,[0]),(1,[0,18]),(2,[2]),(3,[3,4,5]),(4,[3,4,5,6]),(5,[3,4,5,6,8]),(6,[3,4,5,6,42]),(7,[2]),(8,[3,4,5,6,64]),(9,[2]),(10,[3,4,5,6,10]),(11,[3,4,5,6,10,76]),(12,[4,6,12,77,81,83]),(13,[2]),(14,[3,4,10,13]),(15,[4,10,14,15,103,107,109]),(16,[2])],[],[(4,[(4,[29])]),(5,[(4,[36])]),(12,[(4,[81])]),(13,[(1000009,[])]),(15,[(4,[107])]),(16,[(1000000,[])])],[],[]⟩) tab_ok mixed Tryz.func4 rfl Tryz.ntmps4 (rvs:=[.tmp 2]) Tryz.results4 rfl fun hl=>?_
 refine cast (show (let k_1:Prop:=∃ (b:Unit),True/\true=true;(decide ((zi l.length)>i_1048576)=true->true=true)/\(decide ((zi l.length)>i_1048576)=false->∃ (b:List Int),q_U l b/\okU b/\(∃ (b_1:Int×Disk×Msg),(hearP (List.take n_2000 b)=b_1.1/\(q_e (hearDk (List.take n_2000 b)).1.notes b_1.2.1.notes/\(hearDk (List.take n_2000 b)).1.safe=b_1.2.1.safe)/\(hearM3 (List.take n_2000 b)).1.kind=b_1.2.2.kind/\(hearM3 (List.take n_2000 b)).1.to=b_1.2.2.to/\(hearM3 (List.take n_2000 b)).1.frm=b_1.2.2.frm/\(hearM3 (List.take n_2000 b)).1.tx=b_1.2.2.tx/\(hearM3 (List.take n_2000 b)).1.op.kind=b_1.2.2.op.kind/\(hearM3 (List.take n_2000 b)).1.op.who=b_1.2.2.op.who/\(hearM3 (List.take n_2000 b)).1.op.inn=b_1.2.2.op.inn/\(hearM3 (List.take n_2000 b)).1.op.code=b_1.2.2.op.code/\(hearM3 (List.take n_2000 b)).1.op.sec=b_1.2.2.op.sec/\(hearM3 (List.take n_2000 b)).1.op.fam=b_1.2.2.op.fam/\(hearM3 (List.take n_2000 b)).1.op.gen=b_1.2.2.op.gen)/\(∃ (b_2:Int×Disk×Msg),(hearP (List.take n_2000 b)=b_2.1/\(q_e (hearDk (List.take n_2000 b)).1.notes b_2.2.1.notes/\(hearDk (List.take n_2000 b)).1.safe=b_2.2.1.safe)/\(hearM3 (List.take n_2000 b)).1.kind=b_2.2.2.kind/\(hearM3 (List.take n_2000 b)).1.to=b_2.2.2.to/\(hearM3 (List.take n_2000 b)).1.frm=b_2.2.2.frm/\(hearM3 (List.take n_2000 b)).1.tx=b_2.2.2.tx/\(hearM3 (List.take n_2000 b)).1.op.kind=b_2.2.2.op.kind/\(hearM3 (List.take n_2000 b)).1.op.who=b_2.2.2.op.who/\(hearM3 (List.take n_2000 b)).1.op.inn=b_2.2.2.op.inn/\(hearM3 (List.take n_2000 b)).1.op.code=b_2.2.2.op.code/\(hearM3 (List.take n_2000 b)).1.op.sec=b_2.2.2.op.sec/\(hearM3 (List.take n_2000 b)).1.op.fam=b_2.2.2.op.fam/\(hearM3 (List.take n_2000 b)).1.op.gen=b_2.2.2.op.gen)/\(∃ (b_3:Disk×Disk),((cnRs (frozenRs (typ dNote eNoteO (hearD b_1.1 b_1.2.1 b_1.2.2).1.notes))=t_e b_3.1.notes/\(hearD b_1.1 b_1.2.1 b_1.2.2).1.safe=b_3.1.safe)/\cnRs (frozenRs (typ dNote eNoteO (hearD b_2.1 b_2.2.1 b_2.2.2).1.notes))=t_e b_3.2.notes/\(hearD b_2.1 b_2.2.1 b_2.2.2).1.safe=b_3.2.safe)/\((!decide (b_3.1=b_3.2))=true->false=true)/\((!decide (b_3.1=b_3.2))=false->(decide (hearP (List.take n_2000 b)<i_1)=false->(decide (hearP (List.take n_2000 b)>i_3)=false->∃ (b_4:Disk),(q_e (hearDk (List.take n_2000 b)).1.notes b_4.notes/\(hearDk (List.take n_2000 b)).1.safe=b_4.safe)/\((!diskB b_4)=false->∃ (b_5:Msg),((hearM3 (List.take n_2000 b)).1.kind=b_5.kind/\(hearM3 (List.take n_2000 b)).1.to=b_5.to/\(hearM3 (List.take n_2000 b)).1.frm=b_5.frm/\(hearM3 (List.take n_2000 b)).1.tx=b_5.tx/\(hearM3 (List.take n_2000 b)).1.op.kind=b_5.op.kind/\(hearM3 (List.take n_2000 b)).1.op.who=b_5.op.who/\(hearM3 (List.take n_2000 b)).1.op.inn=b_5.op.inn/\(hearM3 (List.take n_2000 b)).1.op.code=b_5.op.code/\(hearM3 (List.take n_2000 b)).1.op.sec=b_5.op.sec/\(hearM3 (List.take n_2000 b)).1.op.fam=b_5.op.fam/\(hearM3 (List.take n_2000 b)).1.op.gen=b_5.op.gen)/\((!msgB b_5)=false->(((hearM3 (List.take n_2000 b)).1.to != hearP (List.take n_2000 b))=true->k_1)/\(((hearM3 (List.take n_2000 b)).1.to != hearP (List.take n_2000 b))=false->∃ (b_6:Disk×Int),let k_2:Prop:=∃ (b_7:Int×Disk×Msg),(hearP (List.take n_2000 b)=b_7.1/\(q_e (hearDk (List.take n_2000 b)).1.notes b_7.2.1.notes/\(hearDk (List.take n_2000 b)).1.safe=b_7.2.1.safe)/\i_3=b_7.2.2.kind/\hearP (List.take n_2000 b)=b_7.2.2.to/\i_0=b_7.2.2.frm/\(hearM3 (List.take n_2000 b)).1.tx=b_7.2.2.tx/\i_0=b_7.2.2.op.kind/\i_0=b_7.2.2.op.who/\i_0=b_7.2.2.op.inn/\i_0=b_7.2.2.op.code/\i_0=b_7.2.2.op.sec/\i_0=b_7.2.2.op.fam/\i_0=b_7.2.2.op.gen)/\(((zi (hearD b_7.1 b_7.2.1 b_7.2.2).2.length)==i_0)=true->(((if diskB b_6.1=true then ofN b_6.1.notes b_6.2 else i_0)==i_1)=false->∃ (b_8:Disk×Disk),((cnRs (frozenRs (typ dNote eNoteO (hearD b_7.1 b_7.2.1 b_7.2.2).1.notes))=t_e b_8.1.notes/\(hearD b_7.1 b_7.2.1 b_7.2.2).1.safe=b_8.1.safe)/\q_e (hearDk (List.take n_2000 b)).1.notes b_8.2.notes/\(hearDk (List.take n_2000 b)).1.safe=b_8.2.safe)/\decide (b_8.1=b_8.2)=true)/\(((if diskB b_6.1=true then ofN b_6.1.notes b_6.2 else i_0)==i_1)=true->true=true))/\(((zi (hearD b_7.1 b_7.2.1 b_7.2.2).2.length)==i_0)=false->false=true);((q_e (hearDk (List.take n_2000 b)).1.notes b_6.1.notes/\(hearDk (List.take n_2000 b)).1.safe=b_6.1.safe)/\(hearM3 (List.take n_2000 b)).1.tx=b_6.2)/\(((hearM3 (List.take n_2000 b)).1.kind==i_1)=true->(((if diskB b_6.1=true then ofN b_6.1.notes b_6.2 else i_0)==i_3)=true->∃ (b_7:Int×Disk×Msg),(hearP (List.take n_2000 b)=b_7.1/\(q_e (hearDk (List.take n_2000 b)).1.notes b_7.2.1.notes/\(hearDk (List.take n_2000 b)).1.safe=b_7.2.1.safe)/\(hearM3 (List.take n_2000 b)).1.kind=b_7.2.2.kind/\(hearM3 (List.take n_2000 b)).1.to=b_7.2.2.to/\(hearM3 (List.take n_2000 b)).1.frm=b_7.2.2.frm/\(hearM3 (List.take n_2000 b)).1.tx=b_7.2.2.tx/\(hearM3 (List.take n_2000 b)).1.op.kind=b_7.2.2.op.kind/\(hearM3 (List.take n_2000 b)).1.op.who=b_7.2.2.op.who/\(hearM3 (List.take n_2000 b)).1.op.inn=b_7.2.2.op.inn/\(hearM3 (List.take n_2000 b)).1.op.code=b_7.2.2.op.code/\(hearM3 (List.take n_2000 b)).1.op.sec=b_7.2.2.op.sec/\(hearM3 (List.take n_2000 b)).1.op.fam=b_7.2.2.op.fam/\(hearM3 (List.take n_2000 b)).1.op.gen=b_7.2.2.op.gen)/\(∃ (b_8:Disk×Disk),((cnRs (frozenRs (typ dNote eNoteO (hearD b_1.1 b_1.2.1 b_1.2.2).1.notes))=t_e b_8.1.notes/\(hearD b_1.1 b_1.2.1 b_1.2.2).1.safe=b_8.1.safe)/\q_e (hearDk (List.take n_2000 b)).1.notes b_8.2.notes/\(hearDk (List.take n_2000 b)).1.safe=b_8.2.safe)/\(decide (b_8.1=b_8.2)=true->(((zi (hearD b_7.1 b_7.2.1 b_7.2.2).2.length)==i_1)=true->(i_0<=i_0/\i_0<(zi (hearD b_7.1 b_7.2.1 b_7.2.2).2.length))/\(((hearD b_7.1 b_7.2.1 b_7.2.2).2.getD (Int.toNat i_0) dMsg).kind==i_5)=true)/\(((zi (hearD b_7.1 b_7.2.1 b_7.2.2).2.length)==i_1)=false->false=true))/\(decide (b_8.1=b_8.2)=false->false=true)))/\(((if diskB b_6.1=true then ofN b_6.1.notes b_6.2 else i_0)==i_3)=false->k_2))/\(((hearM3 (List.take n_2000 b)).1.kind==i_1)=false->k_2)))/\((!msgB b_5)=true->k_1))/\((!diskB b_4)=true->k_1))/\(decide (hearP (List.take n_2000 b)>i_3)=true->k_1))/\(decide (hearP (List.take n_2000 b)<i_1)=true->k_1)))))))=_ by kernel_rfl) ?_
 delta i_0 i_1 i_5 i_3 zi t_U q_U n_2000 t_e q_e i_1048576
 simp (config:={ maxSteps:=2000000 }) only [zza,zzb,true_and,and_true,and_self,ne_eq,cI_app,cWrtO_app,cWrtS_app,cWrtO_1,cItemO_1,opr_ex,zcast,frz_nil,nil_map,Option.getD_none,Option.getD_some]
 generalize hearP (List.take 2000 l)=p
 generalize (hearDk (List.take 2000 l)).1=d
 generalize (hearM3 (List.take 2000 l)).1=m
 refine fun _=>⟨hpre,fun h=>by simp at h,fun _=>⟨fun h1=>⟨fun h2=>⟨fun hd=>⟨fun hm=>⟨fun _=>⟨(),trivial⟩,fun ht=>?_⟩,fun _=>⟨(),trivial⟩⟩,fun _=>⟨(),trivial⟩⟩,fun _=>⟨(),trivial⟩⟩,fun _=>⟨(),trivial⟩⟩⟩
 have hp:inR p 1 3=true:=by simp only [inR,Bool.and_eq_true,decide_eq_true_eq];omega
 have hd:diskB d=true:=by simpa only [Bool.not_eq_false'] using hd
 have hm:msgB m=true:=by simpa only [Bool.not_eq_false'] using hm
 have ht:m.to=p:=by simpa using ht
 simp only [if_pos hd]
 have hno:=hear_cases hp hd (msg_told (.inr rfl) hp (msg_tx hm)) rfl
 have told:(((hearD p d ⟨3,p,0,m.tx,⟨0,0,0,0,0,0,0⟩⟩).2.length:Int)=0->¬ofN d.notes m.tx=1->(hearD p d ⟨3,p,0,m.tx,⟨0,0,0,0,0,0,0⟩⟩).1=d)/\(¬((hearD p d ⟨3,p,0,m.tx,⟨0,0,0,0,0,0,0⟩⟩).2.length:Int)=0->false=true):=by
  cases hno with
  | had k | cant k | can _ k | full k | yes k | knew k=>simp at k
  | no k o f e=>rw [e];exact ⟨fun _ h=>absurd o h,fun h=>absurd rfl h⟩
  | vain k o e=>rw [e];exact ⟨fun _ _=>rfl,fun h=>absurd rfl h⟩
 refine ⟨fun k1=>⟨fun o3=>?_,fun _=>told⟩,fun _=>told⟩
 cases hear_cases hp hd hm ht with
 | full k | yes k | knew k | no k | vain k=>rw [k1] at k;exact absurd k (by decide)
 | had k o e=>omega
 | can _ k o=>omega
 | cant k o _ e =>
  rw [e]
  exact ⟨fun _=>⟨fun _=>⟨by omega,by simp,rfl⟩,fun h=>absurd rfl h⟩,fun h=>absurd rfl h⟩
end Go.Proofs.AI
