/- What the function of this law does, in data. Conditions: none. -/
import Derived.KernelRfl
import Derived.IntWalk
import Derived.Test.YthahcnabgjgpfabGreatDoorProg
import Derived.Test.YthahcnabgjgpfabGreatDoorK05
namespace Go.Proofs.AI
open Go.RowKit Go.Proofs
set_option linter.unusedVariables false
set_option linter.unusedSimpArgs false
set_option maxRecDepth 100000
abbrev i_8:Int:=8
abbrev y_26:Type:=List Int×Nat×Int×Int×Int×Int
abbrev y_27:Type:=List Int×Nat×Int×Int×Int×Int×Int×Int×Int×Int×Int×Int×Int
abbrev y_35:Type:=List Note×Int×List FTx×List Msg×List FOut×Bool×Nat×List Note×Int×List FTx×List Msg×List FOut×List Note×Int×List FTx×List Msg×List FOut×List Msg×List FOut
end Go.Proofs.AI
namespace Go.Proofs.AI
set_option linter.unusedVariables false
set_option linter.unusedSimpArgs false
theorem at_lt' {w:List FTx} {tx:Int} (h:∀ t∈w,t.tx≠tx):atF w tx=-1:=by
 refine idxOf_miss (d:=dFTx) fun j hj=>?_
 simp only [beq_eq_false_iff_ne]
 exact h _ (getD_mem' hj)
end Go.Proofs.AI
namespace Go.Proofs.AI
open Go.RowKit Go.Proofs
set_option linter.unusedVariables false
set_option linter.unusedSimpArgs false
set_option maxRecDepth 100000
theorem impl_DiskOf_ok (d:Disk) (tx:Int):FunOK Tryz.prog 29 2 [] [(0,kDiskS d),(1,kI tx)] (·=[(2,kI (if diskB d=true then ofN d.notes tx else 0))]):=by
 refine fun_to (E:=⟨tab,ctOf [impl_DiskOk_c,impl_of_c],11,[],[(0,[1,2]),(1,[1,2,7]),(2,[4]),(3,[4])],[],[],[],[]⟩) tab_ok mixed Tryz.func29 rfl Tryz.ntmps29 (rvs:=[.tmp 4]) Tryz.results29 rfl fun hl=>?_
 refine cast (show (∃ (b:Disk),(q_e d.notes b.notes/\d.safe=b.safe)/\((!diskB b)=true->i_0=if diskB d=true then ofN d.notes tx else i_0)/\((!diskB b)=false->∃ (b:Disk×Int),((q_e d.notes b.1.notes/\d.safe=b.1.safe)/\tx=b.2)/\ofN b.1.notes b.2=if diskB d=true then ofN d.notes tx else i_0))=_ by kernel_rfl) ?_
 delta i_0 t_e q_e
 simp only [zza,zzb,true_and,and_true,and_self,ne_eq,cI_app,cWrtO_app,cWrtS_app,cWrtO_1,cItemO_1,opr_ex,zcast,frz_nil,nil_map,Option.getD_none,Option.getD_some]
 refine ⟨fun h=>?_,fun h=>?_⟩
 ·have h:diskB d=false:=by simpa only [Bool.not_eq_true'] using h
  rw [if_neg (by rw [h];decide)]
 ·have h:diskB d=true:=by simpa only [Bool.not_eq_false'] using h
  rw [if_pos h]
def impl_DiskOf_c:Con Tryz.prog:=con0 [.lend,.lend] fun b:Disk×Int=>impl_DiskOf_ok (b.1) (b.2)
end Go.Proofs.AI
namespace Go.Proofs.AI
open Go.RowKit Go.Proofs
set_option linter.unusedVariables false
set_option linter.unusedSimpArgs false
set_option maxRecDepth 100000
abbrev msgK (l:List Int) (p:Nat):Int:=1+pickB l p 7
def msg0 (l:List Int) (p:Nat):Msg×Nat :=
 let to:=if msgK l p<=3 then 1+pickB l (p+2) 3 else 0
 let frm:=if msgK l p<=3 then 0 else 1+pickB l (p+2) 3
 if msgK l p=1 then (⟨msgK l p,to,frm,pickB l (p+1) 6,(opB l (p+3) 0).1⟩,(opB l (p+3) 0).2) else (⟨msgK l p,to,frm,pickB l (p+1) 6,dOpr⟩,p+3)
def msgBent (l:List Int) (p:Nat) (m:Msg):Msg×Nat :=
 let k:=pickB l p 5
 if k=0 then (⟨[0,8].getD (pickB l (p+1) 2).toNat 0,m.to,m.frm,m.tx,m.op⟩,p+2)
 else if k=1 then (⟨m.kind,[-1,4,0,1].getD (pickB l (p+1) 4).toNat 0,m.frm,m.tx,m.op⟩,p+2)
 else if k=2 then (⟨m.kind,m.to,[-1,4,0,1].getD (pickB l (p+1) 4).toNat 0,m.tx,m.op⟩,p+2)
 else if k=3 then (⟨m.kind,m.to,m.frm,[-1,30].getD (pickB l (p+1) 2).toNat 0,m.op⟩,p+2)
 else (⟨m.kind,m.to,m.frm,m.tx,(opB l (p+1) 1).1⟩,(opB l (p+1) 1).2)
def msgD (l:List Int) (p:Nat) (n:Int):Msg×Nat :=
 let a:=msg0 l p
 let q:=oddB l a.2 n
 if q.1=true then msgBent l q.2 a.1 else (a.1,q.2)
theorem msg0_le {l:List Int} {p:Nat} (h:rdB l p 20):(msg0 l p).2<=p+11:=by
 have:=op_le (l:=l) (p:=p+3) 0 (rdB_le h (by omega))
 simp only [msg0]
 split<;>simp only<;>omega
theorem spec_l20Msg_ok (l:List Int) (p:Nat) (n:Int) (hpre:rdB l p 40/\n<1000000):FunOK Tryz.prog 73 2 [0] [(0,kRd l p),(1,kI n)] (·=[(2,kMsg (msgD l p n).1),(0,kRd l (msgD l p n).2)]):=by
 refine fun_to (E:=⟨tab,ctOf [spec_rd_pick_c,spec_l20Op_c,spec_rd_odd_c],70,[0],[(0,[0,1,4]),(1,[0,1,4,5]),(2,[0,1,4,5,14]),(3,[0,1,4,5]),(4,[0,1,4,5]),(5,[0,1,4,5,25]),(6,[0,1,4,5]),(7,[0,4,5,31]),(8,[0,4,5,33]),(9,[0,4,5]),(10,[0,4,5,33,37]),(11,[0,4,5]),(12,[0,4,5,33,45]),(13,[0,4,5]),(14,[0,4,5,33,53]),(15,[0,4,5]),(16,[0,4,5,61]),(17,[0,4,5]),(18,[0,4])],[],[],[(30002,⟨List Int×Nat×Int×Int×Int×Int,fun x=>[(0,⟨.box,[.c (sU (x.1)),.c (.n .i64 (x.2.1:Int))],[]⟩),(1,(k1 (.n .i64 n))),(4,⟨.box,[.c (.n .i64 ((0:Int))),.c (.n .i64 ((0:Int))),.c (.n .i64 ((0:Int))),.c (.n .i64 ((0:Int))),.c (.n .i64 ((0:Int))),.c (.n .i64 ((0:Int))),.c (.n .i64 ((0:Int))),.c (.n .i64 ((0:Int))),.c (.n .i64 ((0:Int))),.c (.n .i64 ((0:Int))),.c (.n .i64 ((0:Int)))],[]⟩),(5,⟨.box,[.c (.n .i64 (x.2.2.1)),.c (.n .i64 (x.2.2.2.1)),.c (.n .i64 (x.2.2.2.2.1)),.c (.n .i64 (x.2.2.2.2.2)),.c (.n .i64 ((0:Int))),.c (.n .i64 ((0:Int))),.c (.n .i64 ((0:Int))),.c (.n .i64 ((0:Int))),.c (.n .i64 ((0:Int))),.c (.n .i64 ((0:Int))),.c (.n .i64 ((0:Int)))],[]⟩)]⟩),(30005,⟨List Int×Nat×Int×Int×Int×Int×Int×Int×Int×Int×Int×Int×Int,fun x=>[(0,⟨.box,[.c (sU (x.1)),.c (.n .i64 (x.2.1:Int))],[]⟩),(1,(k1 (.n .i64 n))),(4,⟨.box,[.c (.n .i64 ((0:Int))),.c (.n .i64 ((0:Int))),.c (.n .i64 ((0:Int))),.c (.n .i64 ((0:Int))),.c (.n .i64 ((0:Int))),.c (.n .i64 ((0:Int))),.c (.n .i64 ((0:Int))),.c (.n .i64 ((0:Int))),.c (.n .i64 ((0:Int))),.c (.n .i64 ((0:Int))),.c (.n .i64 ((0:Int)))],[]⟩),(5,⟨.box,[.c (.n .i64 (x.2.2.1)),.c (.n .i64 (x.2.2.2.1)),.c (.n .i64 (x.2.2.2.2.1)),.c (.n .i64 (x.2.2.2.2.2.1)),.c (.n .i64 (x.2.2.2.2.2.2.1)),.c (.n .i64 (x.2.2.2.2.2.2.2.1)),.c (.n .i64 (x.2.2.2.2.2.2.2.2.1)),.c (.n .i64 (x.2.2.2.2.2.2.2.2.2.1)),.c (.n .i64 (x.2.2.2.2.2.2.2.2.2.2.1)),.c (.n .i64 (x.2.2.2.2.2.2.2.2.2.2.2.1)),.c (.n .i64 (x.2.2.2.2.2.2.2.2.2.2.2.2))],[]⟩)]⟩)],[]⟩) tab_ok mixed Tryz.func73 rfl Tryz.ntmps73 (rvs:=[.cell 4 46]) Tryz.results73 rfl fun hl=>?_
 refine cast (show (let k_2:Prop:=i_0=i_0/\i_0=i_0/\i_0=i_0/\i_0=i_0/\i_0=i_0/\i_0=i_0/\i_0=i_0;let k_1:Prop:=i_0=i_0/\i_0=i_0/\i_0=i_0/\i_0=i_0/\k_2;∃ (b:y_6),((q_U l b.1/\zi p=zi b.2.1)/\i_7=b.2.2)/\rdB b.1 b.2.1 n_1/\(∃ (b_1:y_6),((q_U b.1 b_1.1/\(zi (b.2.1+n_1))=zi b_1.2.1)/\i_6=b_1.2.2)/\rdB b_1.1 b_1.2.1 n_1/\(∃ (post:y_26->Prop),((decide (wr_ (i_1+pickB b.1 b.2.1 b.2.2)<=i_3)=true->∃ (b_2:y_6),((q_U b_1.1 b_2.1/\(zi (b_1.2.1+n_1))=zi b_2.2.1)/\i_3=b_2.2.2)/\rdB b_2.1 b_2.2.1 n_1/\(∃ (x:y_26),((q_U b_2.1 x.1/\(zi (b_2.2.1+n_1))=zi x.2.1)/\n=n/\k_1/\wr_ (i_1+pickB b.1 b.2.1 b.2.2)=x.2.2.1/\wr_ (i_1+pickB b_2.1 b_2.2.1 b_2.2.2)=x.2.2.2.1/\i_0=x.2.2.2.2.1/\pickB b_1.1 b_1.2.1 b_1.2.2=x.2.2.2.2.2/\k_2)/\post x))/\(decide (wr_ (i_1+pickB b.1 b.2.1 b.2.2)<=i_3)=false->∃ (b_2:y_6),((q_U b_1.1 b_2.1/\(zi (b_1.2.1+n_1))=zi b_2.2.1)/\i_3=b_2.2.2)/\rdB b_2.1 b_2.2.1 n_1/\(∃ (x:y_26),((q_U b_2.1 x.1/\(zi (b_2.2.1+n_1))=zi x.2.1)/\n=n/\k_1/\wr_ (i_1+pickB b.1 b.2.1 b.2.2)=x.2.2.1/\i_0=x.2.2.2.1/\wr_ (i_1+pickB b_2.1 b_2.2.1 b_2.2.2)=x.2.2.2.2.1/\pickB b_1.1 b_1.2.1 b_1.2.2=x.2.2.2.2.2/\k_2)/\post x)))/\(∀ (x:y_26),post x->∃ (post:y_27->Prop),(((x.2.2.1==i_1)=true->∃ (b:y_6),((q_U x.1 b.1/\zi x.2.1=zi b.2.1)/\i_0=b.2.2)/\(rdB b.1 b.2.1 n_8/\b.2.2<i_1000000)/\(∃ (x_1:y_27),((q_U b.1 x_1.1/\(zi (opB b.1 b.2.1 b.2.2).2)=zi x_1.2.1)/\n=n/\k_1/\x.2.2.1=x_1.2.2.1/\x.2.2.2.1=x_1.2.2.2.1/\x.2.2.2.2.1=x_1.2.2.2.2.1/\x.2.2.2.2.2=x_1.2.2.2.2.2.1/\(opB b.1 b.2.1 b.2.2).1.kind=x_1.2.2.2.2.2.2.1/\(opB b.1 b.2.1 b.2.2).1.who=x_1.2.2.2.2.2.2.2.1/\(opB b.1 b.2.1 b.2.2).1.inn=x_1.2.2.2.2.2.2.2.2.1/\(opB b.1 b.2.1 b.2.2).1.code=x_1.2.2.2.2.2.2.2.2.2.1/\(opB b.1 b.2.1 b.2.2).1.sec=x_1.2.2.2.2.2.2.2.2.2.2.1/\(opB b.1 b.2.1 b.2.2).1.fam=x_1.2.2.2.2.2.2.2.2.2.2.2.1/\(opB b.1 b.2.1 b.2.2).1.gen=x_1.2.2.2.2.2.2.2.2.2.2.2.2)/\post x_1))/\((x.2.2.1==i_1)=false->∃ (x_1:y_27),((q_U x.1 x_1.1/\zi x.2.1=zi x_1.2.1)/\n=n/\k_1/\x.2.2.1=x_1.2.2.1/\x.2.2.2.1=x_1.2.2.2.1/\x.2.2.2.2.1=x_1.2.2.2.2.1/\x.2.2.2.2.2=x_1.2.2.2.2.2.1/\i_0=x_1.2.2.2.2.2.2.1/\i_0=x_1.2.2.2.2.2.2.2.1/\i_0=x_1.2.2.2.2.2.2.2.2.1/\i_0=x_1.2.2.2.2.2.2.2.2.2.1/\i_0=x_1.2.2.2.2.2.2.2.2.2.2.1/\i_0=x_1.2.2.2.2.2.2.2.2.2.2.2.1/\i_0=x_1.2.2.2.2.2.2.2.2.2.2.2.2)/\post x_1))/\(∀ (x:y_27),let k_9:Prop:=x.2.2.1=(msgD l p n).1.kind;let k_8:Prop:=x.2.2.2.1=(msgD l p n).1.to;let k_7:Prop:=x.2.2.2.2.1=(msgD l p n).1.frm;let k_6:Prop:=x.2.2.2.2.2.2.1=(msgD l p n).1.op.kind/\x.2.2.2.2.2.2.2.1=(msgD l p n).1.op.who/\x.2.2.2.2.2.2.2.2.1=(msgD l p n).1.op.inn/\x.2.2.2.2.2.2.2.2.2.1=(msgD l p n).1.op.code/\x.2.2.2.2.2.2.2.2.2.2.1=(msgD l p n).1.op.sec/\x.2.2.2.2.2.2.2.2.2.2.2.1=(msgD l p n).1.op.fam/\x.2.2.2.2.2.2.2.2.2.2.2.2=(msgD l p n).1.op.gen;let k_5:Prop:=x.2.2.2.2.2.1=(msgD l p n).1.tx/\k_6;let k_4:Prop:=k_7/\k_5;let k_3:Prop:=k_8/\k_4;post x->∃ (b:y_6),((q_U x.1 b.1/\zi x.2.1=zi b.2.1)/\n=b.2.2)/\(rdB b.1 b.2.1 n_1/\b.2.2<i_1000000)/\((oddB b.1 b.2.1 b.2.2).1=true->∃ (b_2:y_6),((q_U b.1 b_2.1/\(zi (oddB b.1 b.2.1 b.2.2).2)=zi b_2.2.1)/\i_5=b_2.2.2)/\rdB b_2.1 b_2.2.1 n_1/\((pickB b_2.1 b_2.2.1 b_2.2.2==i_0)=true->∃ (b:y_6),((q_U b_2.1 b.1/\(zi (b_2.2.1+n_1))=zi b.2.1)/\i_2=b.2.2)/\rdB b.1 b.2.1 n_1/\(i_0<=pickB b.1 b.2.1 b.2.2/\pickB b.1 b.2.1 b.2.2<zi n_2)/\(pickB b.1 b.2.1 b.2.2).toNat<n_2/\([i_0,i_8].getD (pickB b.1 b.2.1 b.2.2).toNat i_0=(msgD l p n).1.kind/\k_3)/\q_U b.1 l/\(zi (b.2.1+n_1))=(zi (msgD l p n).2))/\((pickB b_2.1 b_2.2.1 b_2.2.2==i_0)=false->((pickB b_2.1 b_2.2.1 b_2.2.2==i_1)=true->∃ (b:y_6),((q_U b_2.1 b.1/\(zi (b_2.2.1+n_1))=zi b.2.1)/\i_4=b.2.2)/\rdB b.1 b.2.1 n_1/\(i_0<=pickB b.1 b.2.1 b.2.2/\pickB b.1 b.2.1 b.2.2<zi n_4)/\(pickB b.1 b.2.1 b.2.2).toNat<n_4/\(k_9/\[(-1:Int),i_4,i_0,i_1].getD (pickB b.1 b.2.1 b.2.2).toNat i_0=(msgD l p n).1.to/\k_4)/\q_U b.1 l/\(zi (b.2.1+n_1))=(zi (msgD l p n).2))/\((pickB b_2.1 b_2.2.1 b_2.2.2==i_1)=false->((pickB b_2.1 b_2.2.1 b_2.2.2==i_2)=true->∃ (b:y_6),((q_U b_2.1 b.1/\(zi (b_2.2.1+n_1))=zi b.2.1)/\i_4=b.2.2)/\rdB b.1 b.2.1 n_1/\(i_0<=pickB b.1 b.2.1 b.2.2/\pickB b.1 b.2.1 b.2.2<zi n_4)/\(pickB b.1 b.2.1 b.2.2).toNat<n_4/\(k_9/\k_8/\[(-1:Int),i_4,i_0,i_1].getD (pickB b.1 b.2.1 b.2.2).toNat i_0=(msgD l p n).1.frm/\k_5)/\q_U b.1 l/\(zi (b.2.1+n_1))=(zi (msgD l p n).2))/\((pickB b_2.1 b_2.2.1 b_2.2.2==i_2)=false->((pickB b_2.1 b_2.2.1 b_2.2.2==i_3)=true->∃ (b:y_6),((q_U b_2.1 b.1/\(zi (b_2.2.1+n_1))=zi b.2.1)/\i_2=b.2.2)/\rdB b.1 b.2.1 n_1/\(i_0<=pickB b.1 b.2.1 b.2.2/\pickB b.1 b.2.1 b.2.2<zi n_2)/\(pickB b.1 b.2.1 b.2.2).toNat<n_2/\(k_9/\k_8/\k_7/\[(-1:Int),i_30].getD (pickB b.1 b.2.1 b.2.2).toNat i_0=(msgD l p n).1.tx/\k_6)/\q_U b.1 l/\(zi (b.2.1+n_1))=(zi (msgD l p n).2))/\((pickB b_2.1 b_2.2.1 b_2.2.2==i_3)=false->∃ (b:y_6),((q_U b_2.1 b.1/\(zi (b_2.2.1+n_1))=zi b.2.1)/\i_1=b.2.2)/\(rdB b.1 b.2.1 n_8/\b.2.2<i_1000000)/\(k_9/\k_8/\k_7/\x.2.2.2.2.2.1=(msgD l p n).1.tx/\(opB b.1 b.2.1 b.2.2).1.kind=(msgD l p n).1.op.kind/\(opB b.1 b.2.1 b.2.2).1.who=(msgD l p n).1.op.who/\(opB b.1 b.2.1 b.2.2).1.inn=(msgD l p n).1.op.inn/\(opB b.1 b.2.1 b.2.2).1.code=(msgD l p n).1.op.code/\(opB b.1 b.2.1 b.2.2).1.sec=(msgD l p n).1.op.sec/\(opB b.1 b.2.1 b.2.2).1.fam=(msgD l p n).1.op.fam/\(opB b.1 b.2.1 b.2.2).1.gen=(msgD l p n).1.op.gen)/\q_U b.1 l/\(zi (opB b.1 b.2.1 b.2.2).2)=(zi (msgD l p n).2))))))/\((oddB b.1 b.2.1 b.2.2).1=false->(k_9/\k_3)/\q_U b.1 l/\(zi (oddB b.1 b.2.1 b.2.2).2)=(zi (msgD l p n).2)))))))=_ by kernel_rfl) ?_
 delta i_0 i_1 i_5 i_2 i_3 i_4 wr_ zi n_8 n_1 n_2 i_1000000 t_U q_U i_7 y_6 i_6 n_4 i_30 i_8 y_26 y_27
 have hp:=hpre.1
 have b7:=pick_lt (l:=l) (p:=p) (n:=7) (rdB_le hp (by omega):rdB l p 1) (by omega)
 have b3:=pick_lt (l:=l) (p:=p+2) (n:=3) (rdB_le hp (by omega):rdB l (p+2) 1) (by omega)
 have hm:=msg0_le (l:=l) (p:=p) (rdB_le hp (by omega))
 have e1:IntKind.i64.wrap (1+pickB l p 7)=1+pickB l p 7:=IntWalk.i64_in _ (by omega)
 have e2:IntKind.i64.wrap (1+pickB l (p+2) 3)=1+pickB l (p+2) 3:=IntWalk.i64_in _ (by omega)
 simp only [zza,zzb,true_and,and_true,and_self,ne_eq,cI_app,cWrtO_app,cWrtS_app,cWrtO_1,cItemO_1,opr_ex,zcast,frz_nil,nil_map,Option.getD_none,Option.getD_some]
 simp only [Nat.add_assoc,Nat.reduceAdd,e1,e2]
 refine ⟨rdB_le hp (by omega),rdB_le hp (by omega),fun z=>z=(l,p+3,msgK l p,(if msgK l p<=3 then 1+pickB l (p+2) 3 else 0),(if msgK l p<=3 then 0 else 1+pickB l (p+2) 3),pickB l (p+1) 6),fun h=>⟨rdB_le hp (by omega),by simp only [if_pos h]⟩,fun h=>⟨rdB_le hp (by omega),by simp only [if_neg h]⟩,?_⟩
 intro a q k to frm tx hz
 simp only [Prod.mk.injEq] at hz
 obtain ⟨h1,h2,h3,h4,h5,h6⟩:=hz
 subst h1 h2 h3 h4 h5 h6
 refine ⟨fun z=>z=(a,(msg0 a p).2,(msg0 a p).1.kind,(msg0 a p).1.to,(msg0 a p).1.frm,(msg0 a p).1.tx,(msg0 a p).1.op.kind,(msg0 a p).1.op.who,(msg0 a p).1.op.inn,(msg0 a p).1.op.code,(msg0 a p).1.op.sec,(msg0 a p).1.op.fam,(msg0 a p).1.op.gen),fun h=>⟨rdB_le hp (by omega),by omega,by simp only [msg0,if_pos h]⟩,fun h=>by simp only [msg0,if_neg h];rfl,?_⟩
 intro l q a0 a1 a2 a3 a4 a5 a6 a7 a8 a9 a10 hz
 simp only [Prod.mk.injEq] at hz
 obtain ⟨h0,h1,h2,h3,h4,h5,h6,h7,h8,h9,h10,h11,h12⟩:=hz
 subst h0 h1 h2 h3 h4 h5 h6 h7 h8 h9 h10 h11 h12
 have ho:=odd_le l (msg0 l p).2 n
 have hd:msgD l p n=if (oddB l (msg0 l p).2 n).1=true then msgBent l (oddB l (msg0 l p).2 n).2 (msg0 l p).1 else ((msg0 l p).1,(oddB l (msg0 l p).2 n).2):=rfl
 rw [hd]
 generalize msg0 l p=A at *
 generalize oddB l A.2 n=Q at *
 have b2:=pick_lt (l:=l) (p:=Q.2+1) (n:=2) (rdB_le hp (by omega):rdB l (Q.2+1) 1) (by omega)
 have b4:=pick_lt (l:=l) (p:=Q.2+1) (n:=4) (rdB_le hp (by omega):rdB l (Q.2+1) 1) (by omega)
 refine ⟨rdB_le hp (by omega),hpre.2,fun hq=>⟨rdB_le hp (by omega),?_⟩,fun hq=>?_⟩
 ·rw [if_pos hq]
  refine ⟨fun h0=>⟨rdB_le hp (by omega),b2.1,b2.2,by omega,?_⟩,fun h0=>⟨fun h1=>⟨rdB_le hp (by omega),b4.1,b4.2,by omega,?_⟩,fun h1=>⟨fun h2=>⟨rdB_le hp (by omega),b4.1,b4.2,by omega,?_⟩,fun h2=>⟨fun h3=>⟨rdB_le hp (by omega),b2.1,b2.2,by omega,?_⟩,fun h3=>⟨rdB_le hp (by omega),by omega,?_⟩⟩⟩⟩⟩
  ·simp [msgBent,h0]
  ·simp [msgBent,h1]
  ·simp [msgBent,h2]
  ·simp [msgBent,h3]
  ·simp [msgBent,h0,h1,h2,h3]
 ·rw [hq]
  simp
def spec_l20Msg_c:Con Tryz.prog:=conP [.ptr,.lend] fun (b:List Int×Nat×Int) h=>spec_l20Msg_ok (b.1) (b.2.1) (b.2.2) h
end Go.Proofs.AI
namespace Go.Proofs.AI
set_option linter.unusedVariables false
set_option linter.unusedSimpArgs false
theorem what_eq {f:Front} (hf:okF f) {p tx:Int} {o:Opr}:hearF f ⟨7,0,p,tx,o⟩=(f,whatF f ⟨7,0,p,tx,o⟩,[]):=by
 simp only [hearF]
 rw [if_neg (by omega),if_neg (by omega),if_neg (by omega),if_pos (.inr trivial)]
end Go.Proofs.AI
namespace Go.Proofs.AI
open Go.RowKit Go.Proofs
set_option linter.unusedVariables false
set_option linter.unusedSimpArgs false
set_option maxRecDepth 100000
set_option pp.deepTerms true
set_option pp.maxSteps 40000
theorem msgD_le' {l:List Int} {p:Nat} (n:Int) (h:rdB l p 40):(msgD l p n).2<=p+30:=by
 have h1:=msg0_le (l:=l) (p:=p) (rdB_le h (by omega))
 have h2:=odd_le l (msg0 l p).2 n
 have h3:=op_le (l:=l) (p:=(oddB l (msg0 l p).2 n).2+1) 1 (rdB_le h (by omega))
 simp only [msgD]
 split
 ·simp only [msgBent]
  repeat' split
  all_goals simp only<;>omega
 ·simp only;omega
def froM1 (l:List Int):Msg×Nat :=
 let a:=msgD l (frontD l 0 12).2 9
 if a.1.kind<=3 then (if 0<pickB l a.2 5 then (⟨4+pickB l (a.2+1) 4,0,1+pickB l (a.2+2) 3,a.1.tx,dOpr⟩,a.2+3) else (a.1,a.2+1)) else a
def froM2 (f:Front) (l:List Int) (a:Msg×Nat):Msg :=
 if 0<f.way.length then (if 0<pickB l a.2 3 then (if 4<=a.1.kind then ⟨a.1.kind,a.1.to,a.1.frm,(f.way.getD (pickB l (a.2+1) f.way.length).toNat dFTx).tx,a.1.op⟩ else a.1) else a.1) else a.1
def froHr (l:List Int):Msg:=froM2 (frontD l 0 12).1 l (froM1 l)
theorem spec_DrawFroHear_ok (l:List Int) (hpre:okU l):FunOK Tryz.prog 31 1 [] [(0,k1 (sU l))] (·=[(1,⟨.tup [(true,3),(true,11)],.c (oNotes (frontD (l.take 2000) 0 12).1.disk.notes)::.c (.n .i64 (frontD (l.take 2000) 0 12).1.disk.safe)::.c (oFTxs (frontD (l.take 2000) 0 12).1.way)::cKMsg (froHr (l.take 2000)),[]⟩)]):=by
 refine fun_to (E:=⟨tab,ctOf [spec_l20Open_c,spec_l20Front_c,spec_rd_pick_c,spec_l20Msg_c],57,[],[(0,[0,2,3,5,55]),(1,[2,3,4,5,8,55]),(2,[2,3,4,5,8,55]),(3,[2,3,4,5,6,8,55]),(4,[2,3,4,5,6,8,20,55]),(5,[2,3,4,5,6,8,55]),(6,[2,3,4,5,6,8,43,55]),(7,[2,3,5,6,55]),(8,[2,3,5,55])],[],[],[],[]⟩) tab_ok mixed Tryz.func31 rfl Tryz.ntmps31 (rvs:=[.cell 2 38,.cell 3 46]) Tryz.results31 rfl fun hl=>?_
 refine cast (show (let k_2:Prop:=i_0=(froHr (List.take n_2000 l)).to;let k_1:Prop:=i_0=(froHr (List.take n_2000 l)).op.kind/\i_0=(froHr (List.take n_2000 l)).op.who/\i_0=(froHr (List.take n_2000 l)).op.inn/\i_0=(froHr (List.take n_2000 l)).op.code/\i_0=(froHr (List.take n_2000 l)).op.sec/\i_0=(froHr (List.take n_2000 l)).op.fam/\i_0=(froHr (List.take n_2000 l)).op.gen;∃ (b:List Int),q_U l b/\(∃ (b_1:y_6),let k_7:Prop:=decide ((zi (frontD b_1.1 b_1.2.1 b_1.2.2).1.way.length)>i_0)=true;let k_6:Prop:=decide ((zi (frontD b_1.1 b_1.2.1 b_1.2.2).1.way.length)>i_0)=false;let k_5:Prop:=q_j (frontD b_1.1 b_1.2.1 b_1.2.2).1.way (frontD (List.take n_2000 l) n_0 i_12).1.way;let k_4:Prop:=(frontD b_1.1 b_1.2.1 b_1.2.2).1.disk.safe=(frontD (List.take n_2000 l) n_0 i_12).1.disk.safe;let k_3:Prop:=q_f (frontD b_1.1 b_1.2.1 b_1.2.2).1.disk.notes (frontD (List.take n_2000 l) n_0 i_12).1.disk.notes;((q_U (List.take n_2000 b) b_1.1/\zi n_0=zi b_1.2.1)/\i_12=b_1.2.2)/\(rdB b_1.1 b_1.2.1 n_4000/\b_1.2.2<i_1000000)/\(∃ (b:y_6),let k_17:Prop:=decide ((msgD b.1 b.2.1 b.2.2).1.kind≥i_4)=true;let k_16:Prop:=(msgD b.1 b.2.1 b.2.2).1.to=(froHr (List.take n_2000 l)).to;let k_15:Prop:=(msgD b.1 b.2.1 b.2.2).1.tx=(froHr (List.take n_2000 l)).tx;let k_14:Prop:=(msgD b.1 b.2.1 b.2.2).1.frm=(froHr (List.take n_2000 l)).frm;let k_13:Prop:=(msgD b.1 b.2.1 b.2.2).1.kind=(froHr (List.take n_2000 l)).kind;let k_12:Prop:=k_15/\k_1;let k_11:Prop:=(msgD b.1 b.2.1 b.2.2).1.op.kind=(froHr (List.take n_2000 l)).op.kind/\(msgD b.1 b.2.1 b.2.2).1.op.who=(froHr (List.take n_2000 l)).op.who/\(msgD b.1 b.2.1 b.2.2).1.op.inn=(froHr (List.take n_2000 l)).op.inn/\(msgD b.1 b.2.1 b.2.2).1.op.code=(froHr (List.take n_2000 l)).op.code/\(msgD b.1 b.2.1 b.2.2).1.op.sec=(froHr (List.take n_2000 l)).op.sec/\(msgD b.1 b.2.1 b.2.2).1.op.fam=(froHr (List.take n_2000 l)).op.fam/\(msgD b.1 b.2.1 b.2.2).1.op.gen=(froHr (List.take n_2000 l)).op.gen;let k_10:Prop:=k_3/\k_4/\k_5/\k_13/\k_16/\k_14/\k_15/\k_11;let k_9:Prop:=k_6->k_10;let k_8:Prop:=decide ((msgD b.1 b.2.1 b.2.2).1.kind≥i_4)=false->k_10;((q_U b_1.1 b.1/\(zi (frontD b_1.1 b_1.2.1 b_1.2.2).2)=zi b.2.1)/\i_9=b.2.2)/\(rdB b.1 b.2.1 n_40/\b.2.2<i_1000000)/\(decide ((msgD b.1 b.2.1 b.2.2).1.kind<=i_3)=true->∃ (b_2:y_6),((q_U b.1 b_2.1/\(zi (msgD b.1 b.2.1 b.2.2).2)=zi b_2.2.1)/\i_5=b_2.2.2)/\rdB b_2.1 b_2.2.1 n_1/\(decide (pickB b_2.1 b_2.2.1 b_2.2.2>i_0)=true->∃ (b_3:y_6),let k_18:Prop:=wr_ (i_4+pickB b_3.1 b_3.2.1 b_3.2.2)=(froHr (List.take n_2000 l)).kind;((q_U b_2.1 b_3.1/\(zi (b_2.2.1+n_1))=zi b_3.2.1)/\i_4=b_3.2.2)/\rdB b_3.1 b_3.2.1 n_1/\(∃ (b_4:y_6),let k_20:Prop:=wr_ (i_1+pickB b_4.1 b_4.2.1 b_4.2.2)=(froHr (List.take n_2000 l)).frm;let k_19:Prop:=k_3/\k_4/\k_5/\k_18/\k_2/\k_20/\k_12;((q_U b_3.1 b_4.1/\(zi (b_3.2.1+n_1))=zi b_4.2.1)/\i_3=b_4.2.2)/\rdB b_4.1 b_4.2.1 n_1/\(k_7->∃ (b_5:y_6),((q_U b_4.1 b_5.1/\(zi (b_4.2.1+n_1))=zi b_5.2.1)/\i_3=b_5.2.2)/\rdB b_5.1 b_5.2.1 n_1/\(decide (pickB b_5.1 b_5.2.1 b_5.2.2>i_0)=true->(decide (wr_ (i_4+pickB b_3.1 b_3.2.1 b_3.2.2)≥i_4)=true->∃ (b:y_6),((q_U b_5.1 b.1/\(zi (b_5.2.1+n_1))=zi b.2.1)/\(zi (frontD b_1.1 b_1.2.1 b_1.2.2).1.way.length)=b.2.2)/\rdB b.1 b.2.1 n_1/\(i_0<=pickB b.1 b.2.1 b.2.2/\pickB b.1 b.2.1 b.2.2<(zi (frontD b_1.1 b_1.2.1 b_1.2.2).1.way.length))/\(pickB b.1 b.2.1 b.2.2).toNat<(frontD b_1.1 b_1.2.1 b_1.2.2).1.way.length/\k_3/\k_4/\k_5/\k_18/\k_2/\k_20/\((frontD b_1.1 b_1.2.1 b_1.2.2).1.way.getD (pickB b.1 b.2.1 b.2.2).toNat dFTx).tx=(froHr (List.take n_2000 l)).tx/\k_1)/\(decide (wr_ (i_4+pickB b_3.1 b_3.2.1 b_3.2.2)≥i_4)=false->k_19))/\(decide (pickB b_5.1 b_5.2.1 b_5.2.2>i_0)=false->k_19))/\(k_6->k_19)))/\(decide (pickB b_2.1 b_2.2.1 b_2.2.2>i_0)=false->(k_7->∃ (b_3:y_6),((q_U b_2.1 b_3.1/\(zi (b_2.2.1+n_1))=zi b_3.2.1)/\i_3=b_3.2.2)/\rdB b_3.1 b_3.2.1 n_1/\(decide (pickB b_3.1 b_3.2.1 b_3.2.2>i_0)=true->(k_17->∃ (b_4:y_6),((q_U b_3.1 b_4.1/\(zi (b_3.2.1+n_1))=zi b_4.2.1)/\(zi (frontD b_1.1 b_1.2.1 b_1.2.2).1.way.length)=b_4.2.2)/\rdB b_4.1 b_4.2.1 n_1/\(i_0<=pickB b_4.1 b_4.2.1 b_4.2.2/\pickB b_4.1 b_4.2.1 b_4.2.2<(zi (frontD b_1.1 b_1.2.1 b_1.2.2).1.way.length))/\(pickB b_4.1 b_4.2.1 b_4.2.2).toNat<(frontD b_1.1 b_1.2.1 b_1.2.2).1.way.length/\k_3/\k_4/\k_5/\k_13/\k_16/\k_14/\((frontD b_1.1 b_1.2.1 b_1.2.2).1.way.getD (pickB b_4.1 b_4.2.1 b_4.2.2).toNat dFTx).tx=(froHr (List.take n_2000 l)).tx/\k_11)/\k_8)/\(decide (pickB b_3.1 b_3.2.1 b_3.2.2>i_0)=false->k_10))/\k_9))/\(decide ((msgD b.1 b.2.1 b.2.2).1.kind<=i_3)=false->(k_7->∃ (b_2:y_6),((q_U b.1 b_2.1/\(zi (msgD b.1 b.2.1 b.2.2).2)=zi b_2.2.1)/\i_3=b_2.2.2)/\rdB b_2.1 b_2.2.1 n_1/\(decide (pickB b_2.1 b_2.2.1 b_2.2.2>i_0)=true->(k_17->∃ (b_3:y_6),((q_U b_2.1 b_3.1/\(zi (b_2.2.1+n_1))=zi b_3.2.1)/\(zi (frontD b_1.1 b_1.2.1 b_1.2.2).1.way.length)=b_3.2.2)/\rdB b_3.1 b_3.2.1 n_1/\(i_0<=pickB b_3.1 b_3.2.1 b_3.2.2/\pickB b_3.1 b_3.2.1 b_3.2.2<(zi (frontD b_1.1 b_1.2.1 b_1.2.2).1.way.length))/\(pickB b_3.1 b_3.2.1 b_3.2.2).toNat<(frontD b_1.1 b_1.2.1 b_1.2.2).1.way.length/\k_3/\k_4/\k_5/\k_13/\k_16/\k_14/\((frontD b_1.1 b_1.2.1 b_1.2.2).1.way.getD (pickB b_3.1 b_3.2.1 b_3.2.2).toNat dFTx).tx=(froHr (List.take n_2000 l)).tx/\k_11)/\k_8)/\(decide (pickB b_2.1 b_2.2.1 b_2.2.2>i_0)=false->k_10))/\k_9))))=_ by kernel_rfl) ?_
 delta i_0 i_9 i_1 i_5 i_3 i_4 wr_ zi n_0 n_1 n_40 i_1000000 t_U q_U n_2000 y_6 i_12 t_f q_f t_j q_j n_4000
 simp only [zza,zzb,true_and,and_true,and_self,ne_eq,cI_app,cWrtO_app,cWrtS_app,cWrtO_1,cItemO_1,opr_ex,zcast,frz_nil,nil_map,Option.getD_none,Option.getD_some]
 have hu:okU (l.take 2000):=fun x hx=>hpre x (List.mem_of_mem_take hx)
 generalize l.take 2000=L at *
 have hr:∀ q:Nat,q<=100000->∀ k:Nat,k<=4000->rdB L q k:=fun q hq k hk=>⟨hu,by omega⟩
 have hd:=frontD_le 12 (hr 0 (by omega) 4000 (by omega))
 have hm:=msgD_le' (l:=L) (p:=(frontD L 0 12).2) 9 (hr _ (by omega) 40 (by omega))
 have e1:froM1 L=if (msgD L (frontD L 0 12).2 9).1.kind<=3 then (if 0<pickB L (msgD L (frontD L 0 12).2 9).2 5 then (⟨4+pickB L ((msgD L (frontD L 0 12).2 9).2+1) 4,0,1+pickB L ((msgD L (frontD L 0 12).2 9).2+2) 3,(msgD L (frontD L 0 12).2 9).1.tx,dOpr⟩,(msgD L (frontD L 0 12).2 9).2+3) else ((msgD L (frontD L 0 12).2 9).1,(msgD L (frontD L 0 12).2 9).2+1)) else msgD L (frontD L 0 12).2 9:=rfl
 simp only [froHr]
 rw [e1]
 generalize frontD L 0 12=A at *
 obtain ⟨f,p⟩:=A
 simp only at hd hm ⊢
 generalize msgD L p 9=B at *
 obtain ⟨m,q⟩:=B
 simp only at hm ⊢
 have b1:=pick_lt (l:=L) (p:=q+1) (n:=4) (hr _ (by omega) 1 (by omega)) (by omega)
 have b2:=pick_lt (l:=L) (p:=q+2) (n:=3) (hr _ (by omega) 1 (by omega)) (by omega)
 have b2':0<=pickB L (q+1+1) 3/\pickB L (q+1+1) 3<3:=b2
 have e2:IntKind.i64.wrap (4+pickB L (q+1) 4)=4+pickB L (q+1) 4:=IntWalk.i64_in _ (by omega)
 have e3:IntKind.i64.wrap (1+pickB L (q+1+1) 3)=1+pickB L (q+2) 3:=IntWalk.i64_in _ (by omega)
 have pk:∀ (r:Nat),r<=90000->0<f.way.length->0<=pickB L r (f.way.length:Int)/\pickB L r (f.way.length:Int)<(f.way.length:Int):=fun r h1 h2=>pick_lt (l:=L) (p:=r) (n:=(f.way.length:Int)) (hr _ (by omega) 1 (by omega)) (by omega)
 have fin:∀ (a:Msg) (r:Nat),r<=80000->(0<(f.way.length:Int)->rdB L r 1/\(0<pickB L r 3->(4<=a.kind->rdB L (r+1) 1/\0<=pickB L (r+1) f.way.length/\pickB L (r+1) f.way.length<f.way.length/\(pickB L (r+1) f.way.length).toNat<f.way.length/\froM2 f L (a,r)=⟨a.kind,a.to,a.frm,(f.way.getD (pickB L (r+1) f.way.length).toNat dFTx).tx,a.op⟩)/\(¬ 4<=a.kind->froM2 f L (a,r)=a))/\(¬ 0<pickB L r 3->froM2 f L (a,r)=a))/\(¬ 0<(f.way.length:Int)->froM2 f L (a,r)=a):=fun a r hq=>by
  refine ⟨fun h1=>⟨hr _ (by omega) _ (by omega),fun h2=>⟨fun h3=>?_,fun h3=>?_⟩,fun h2=>?_⟩,fun h1=>?_⟩
  ·have:=pk (r+1) (by omega) (by omega)
   exact ⟨hr _ (by omega) _ (by omega),this.1,this.2,by omega,by simp only [froM2];rw [if_pos (by omega),if_pos h2,if_pos h3]⟩
  ·simp only [froM2];rw [if_pos (by omega),if_pos h2,if_neg h3]
  ·simp only [froM2];rw [if_pos (by omega),if_neg h2]
  ·simp only [froM2];rw [if_neg (by omega)]
 simp only [e2,e3]
 refine ⟨hr _ (by omega) _ (by omega),by omega,hr _ (by omega) _ (by omega),by omega,fun h1=>⟨hr _ (by omega) _ (by omega),fun h2=>⟨hr _ (by omega) _ (by omega),hr _ (by omega) _ (by omega),?_⟩,fun h2=>?_⟩,fun h1=>?_⟩
 ·obtain ⟨g1,g2⟩:=fin ⟨4+pickB L (q+1) 4,0,1+pickB L (q+2) 3,m.tx,dOpr⟩ (q+3) (by omega)
  simp only [if_pos h1,if_pos h2]
  refine ⟨fun h3=>⟨(g1 h3).1,fun h4=>⟨fun h5=>?_,fun h5=>?_⟩,fun h4=>?_⟩,fun h3=>?_⟩
  ·obtain ⟨k1,k2,k3,k4,k5⟩:=((g1 h3).2.1 h4).1 h5
   rw [k5];refine ⟨k1,k2,k3,k4,?_⟩;and_intros<;>rfl
  ·rw [((g1 h3).2.1 h4).2 h5];and_intros<;>rfl
  ·rw [(g1 h3).2.2 h4];and_intros<;>rfl
  ·rw [g2 h3];and_intros<;>rfl
 ·obtain ⟨g1,g2⟩:=fin m (q+1) (by omega)
  simp only [if_pos h1,if_neg h2]
  refine ⟨fun h3=>⟨(g1 h3).1,fun h4=>⟨fun h5=>?_,fun h5=>?_⟩,fun h4=>?_⟩,fun h3=>?_⟩
  ·obtain ⟨k1,k2,k3,k4,k5⟩:=((g1 h3).2.1 h4).1 h5
   rw [k5];refine ⟨k1,k2,k3,k4,?_⟩;and_intros<;>rfl
  ·rw [((g1 h3).2.1 h4).2 h5];and_intros<;>rfl
  ·rw [(g1 h3).2.2 h4];and_intros<;>rfl
  ·rw [g2 h3];and_intros<;>rfl
 ·obtain ⟨g1,g2⟩:=fin m q (by omega)
  simp only [if_neg h1]
  refine ⟨fun h3=>⟨(g1 h3).1,fun h4=>⟨fun h5=>?_,fun h5=>?_⟩,fun h4=>?_⟩,fun h3=>?_⟩
  ·obtain ⟨k1,k2,k3,k4,k5⟩:=((g1 h3).2.1 h4).1 h5
   rw [k5];refine ⟨k1,k2,k3,k4,?_⟩;and_intros<;>rfl
  ·rw [((g1 h3).2.1 h4).2 h5];and_intros<;>rfl
  ·rw [(g1 h3).2.2 h4];and_intros<;>rfl
  ·rw [g2 h3];and_intros<;>rfl
def spec_DrawFroHear_c:Con Tryz.prog:=conP [.lend] fun (b:List Int) h=>spec_DrawFroHear_ok b h
end Go.Proofs.AI
namespace Go.Proofs.AI
open Go.RowKit Go.Proofs
set_option linter.unusedVariables false
set_option linter.unusedSimpArgs false
set_option maxRecDepth 100000
theorem hearB_told {f:Front} (hf:okF f) {k p tx:Int} (hk:k=4∨k=6∨k=7) (hp:1<=p/\p<=3) (ht:0<=tx/\tx<=29) :
  hearB f ⟨k,0,p,tx,⟨0,0,0,0,0,0,0⟩⟩=hearF f ⟨k,0,p,tx,⟨0,0,0,0,0,0,0⟩⟩:=by
 have h:msgB ⟨k,0,p,tx,⟨0,0,0,0,0,0,0⟩⟩=true:=by
  have e:(⟨0,0,0,0,0,0,0⟩:Opr)=dOpr:=rfl
  rcases hk with rfl | rfl | rfl<;>simp [msgB,inR,ht,hp,e]
 simp only [hearB,froB_iff.2 hf,h,decide_true,Bool.and_self,if_true]
end Go.Proofs.AI
namespace Go.Proofs.AI
open Go.RowKit Go.Proofs
set_option linter.unusedVariables false
set_option linter.unusedSimpArgs false
set_option maxRecDepth 100000
theorem laws_FnFroWhat_ok (l:List Int) (hpre:okU l):FunOK Tryz.prog 5 1 [] [(0,k1 (sU l))] (·=[(1,kB true)]):=by
 refine fun_to (E:=⟨tabM,ctOf [impl_FroHear_c,laws_jaOk_c,laws_jaFront_c,impl_DiskOf_c,impl_FroOk_c,spec_DrawFroHear_c,spec_FroOk_c],118,[],[(0,[0]),(1,[0,13]),(2,[2]),(3,[0,3,4]),(4,[0,3,4,31]),(5,[2]),(6,[3,4,5]),(7,[3,4,5,6,7,8,44,50,52,53]),(8,[3,4,5,6,7,8,9,44,50,52,53]),(9,[3,4,5,6,7,8,9,10,44,50,52,53]),(10,[3,4,5,6,7,8,9,10,44,50,52,53,58]),(11,[3,4,5,6,7,8,9,10,44,50,52,53]),(12,[3,4,5,6,7,8,9,10,44,50,52,53]),(13,[3,4,5,7,9,44,50,52,81]),(14,[2]),(15,[4,5,7,9,44,50,52,87]),(16,[2]),(17,[4,5,7,44,50,52,101]),(18,[2]),(19,[2])],[(0,⟨List Note×Int×List FTx×List Msg×List FOut×Bool×Nat×List Note×Int×List FTx×List Msg×List FOut×List Note×Int×List FTx×List Msg×List FOut×List Msg×List FOut,fun x=>[(3,⟨.box,[.c (.sh 107 (frozenRs (typ dNote eNoteO (frontD (List.take (2000:Nat) l) (0:Nat) (12:Int)).fst.disk.notes))),.c (.n .i64 ((frontD (List.take (2000:Nat) l) (0:Nat) (12:Int)).fst.disk.safe)),.c (.sh 69 (frozenRs (typ dFTx eFTxO (frontD (List.take (2000:Nat) l) (0:Nat) (12:Int)).fst.way)))],[]⟩),(4,⟨.box,[.c (.n .i64 ((froHr (List.take (2000:Nat) l)).kind)),.c (.n .i64 ((froHr (List.take (2000:Nat) l)).to)),.c (.n .i64 ((froHr (List.take (2000:Nat) l)).frm)),.c (.n .i64 ((froHr (List.take (2000:Nat) l)).tx)),.c (.n .i64 ((froHr (List.take (2000:Nat) l)).op.kind)),.c (.n .i64 ((froHr (List.take (2000:Nat) l)).op.who)),.c (.n .i64 ((froHr (List.take (2000:Nat) l)).op.inn)),.c (.n .i64 ((froHr (List.take (2000:Nat) l)).op.code)),.c (.n .i64 ((froHr (List.take (2000:Nat) l)).op.sec)),.c (.n .i64 ((froHr (List.take (2000:Nat) l)).op.fam)),.c (.n .i64 ((froHr (List.take (2000:Nat) l)).op.gen))],[]⟩),(5,(k1 (.n .i64 (IntKind.i64.wrap ((1:Int)+(↑l.length:Int).tmod (3:Int)))))),(6,⟨.box,[.c (sNotes (x.1)),.c (.n .i64 (x.2.1)),.c (sFTxs (x.2.2.1))],[]⟩),(7,(k1 (sMsgs (x.2.2.2.1)))),(8,(k1 (sFOuts (x.2.2.2.2.1)))),(9,(k1 (.b (x.2.2.2.2.2.1)))),(10,(k1 (.n .i64 (x.2.2.2.2.2.2.1:Int)))),(44,⟨.tup [(true,(3:Nat)),(false,(1:Nat)),(false,(1:Nat))],[.c (sNotes (x.2.2.2.2.2.2.2.1)),.c (.n .i64 (x.2.2.2.2.2.2.2.2.1)),.c (sFTxs (x.2.2.2.2.2.2.2.2.2.1)),.c (sMsgs (x.2.2.2.2.2.2.2.2.2.2.1)),.c (sFOuts (x.2.2.2.2.2.2.2.2.2.2.2.1))],[]⟩),(50,⟨.tup [(true,(3:Nat)),(false,(1:Nat)),(false,(1:Nat))],[.c (sNotes (x.2.2.2.2.2.2.2.2.2.2.2.2.1)),.c (.n .i64 (x.2.2.2.2.2.2.2.2.2.2.2.2.2.1)),.c (sFTxs (x.2.2.2.2.2.2.2.2.2.2.2.2.2.2.1)),.c (sMsgs (x.2.2.2.2.2.2.2.2.2.2.2.2.2.2.2.1)),.c (sFOuts (x.2.2.2.2.2.2.2.2.2.2.2.2.2.2.2.2.1))],[]⟩),(52,(k1 (sMsgs (x.2.2.2.2.2.2.2.2.2.2.2.2.2.2.2.2.2.1)))),(53,(k1 (sFOuts (x.2.2.2.2.2.2.2.2.2.2.2.2.2.2.2.2.2.2))))]⟩)],[(3,[(2,[16])]),(7,[(6,[50])]),(13,[(1000005,[])]),(18,[(1000000,[])])],[],[]⟩) tabM_ok mixed Tryz.func5 rfl Tryz.ntmps5 (rvs:=[.tmp 2]) Tryz.results5 rfl fun hl=>?_
 refine cast (show (let k_4:Prop:=∃ (b:Unit),True/\true=true;let k_3:Prop:=wr_ (i_1+(zi l.length).tmod i_3)=wr_ (i_1+(zi l.length).tmod i_3);let k_2:Prop:=cnRs (frozenRs (typ dNote eNoteO (frontD (List.take n_2000 l) n_0 i_12).1.disk.notes))=cnRs (frozenRs (typ dNote eNoteO (frontD (List.take n_2000 l) n_0 i_12).1.disk.notes))/\(frontD (List.take n_2000 l) n_0 i_12).1.disk.safe=(frontD (List.take n_2000 l) n_0 i_12).1.disk.safe/\cnRs (frozenRs (typ dFTx eFTxO (frontD (List.take n_2000 l) n_0 i_12).1.way))=cnRs (frozenRs (typ dFTx eFTxO (frontD (List.take n_2000 l) n_0 i_12).1.way));let k_1:Prop:=(froHr (List.take n_2000 l)).kind=(froHr (List.take n_2000 l)).kind/\(froHr (List.take n_2000 l)).to=(froHr (List.take n_2000 l)).to/\(froHr (List.take n_2000 l)).frm=(froHr (List.take n_2000 l)).frm/\(froHr (List.take n_2000 l)).tx=(froHr (List.take n_2000 l)).tx/\(froHr (List.take n_2000 l)).op.kind=(froHr (List.take n_2000 l)).op.kind/\(froHr (List.take n_2000 l)).op.who=(froHr (List.take n_2000 l)).op.who/\(froHr (List.take n_2000 l)).op.inn=(froHr (List.take n_2000 l)).op.inn/\(froHr (List.take n_2000 l)).op.code=(froHr (List.take n_2000 l)).op.code/\(froHr (List.take n_2000 l)).op.sec=(froHr (List.take n_2000 l)).op.sec/\(froHr (List.take n_2000 l)).op.fam=(froHr (List.take n_2000 l)).op.fam/\(froHr (List.take n_2000 l)).op.gen=(froHr (List.take n_2000 l)).op.gen;(decide ((zi l.length)>i_1048576)=true->true=true)/\(decide ((zi l.length)>i_1048576)=false->∃ (b:List Int),let k_5:Prop:=∃ (b_2:Front),(cnRs (frozenRs (typ dNote eNoteO (frontD (List.take n_2000 b) n_0 i_12).1.disk.notes))=t_e b_2.disk.notes/\(frontD (List.take n_2000 b) n_0 i_12).1.disk.safe=b_2.disk.safe/\cnRs (frozenRs (typ dFTx eFTxO (frontD (List.take n_2000 b) n_0 i_12).1.way))=t_h b_2.way)/\(∃ (b_3:Front),(cnRs (frozenRs (typ dNote eNoteO (frontD (List.take n_2000 b) n_0 i_12).1.disk.notes))=t_e b_3.disk.notes/\(frontD (List.take n_2000 b) n_0 i_12).1.disk.safe=b_3.disk.safe/\cnRs (frozenRs (typ dFTx eFTxO (frontD (List.take n_2000 b) n_0 i_12).1.way))=t_h b_3.way)/\((if false=true then !froB b_2==froB b_3 else froB b_2==froB b_3)=true->k_4)/\((if false=true then !froB b_2==froB b_3 else froB b_2==froB b_3)=false->false=true));q_U l b/\okU b/\(∃ (b_1:Front),(cnRs (frozenRs (typ dNote eNoteO (frontD (List.take n_2000 b) n_0 i_12).1.disk.notes))=t_e b_1.disk.notes/\(frontD (List.take n_2000 b) n_0 i_12).1.disk.safe=b_1.disk.safe/\cnRs (frozenRs (typ dFTx eFTxO (frontD (List.take n_2000 b) n_0 i_12).1.way))=t_h b_1.way)/\((!froB b_1)=false->(decide ((froHr (List.take n_2000 b)).tx<i_0)=false->(decide ((froHr (List.take n_2000 b)).tx>i_29)=true->k_5)/\(decide ((froHr (List.take n_2000 b)).tx>i_29)=false->i_3≠i_0/\(∃ (b_2:Front×Msg),((cnRs (frozenRs (typ dNote eNoteO (frontD (List.take n_2000 b) n_0 i_12).1.disk.notes))=t_e b_2.1.disk.notes/\(frontD (List.take n_2000 b) n_0 i_12).1.disk.safe=b_2.1.disk.safe/\cnRs (frozenRs (typ dFTx eFTxO (frontD (List.take n_2000 b) n_0 i_12).1.way))=t_h b_2.1.way)/\i_7=b_2.2.kind/\i_0=b_2.2.to/\wr_ (i_1+(zi l.length).tmod i_3)=b_2.2.frm/\(froHr (List.take n_2000 b)).tx=b_2.2.tx/\i_0=b_2.2.op.kind/\i_0=b_2.2.op.who/\i_0=b_2.2.op.inn/\i_0=b_2.2.op.code/\i_0=b_2.2.op.sec/\i_0=b_2.2.op.fam/\i_0=b_2.2.op.gen)/\(∃ (pre:y_35->Prop),∃ (μ:y_35->Nat),∃ (x0:y_35),((cnRs (frozenRs (typ dNote eNoteO (frontD (List.take n_2000 b) n_0 i_12).1.disk.notes))=cnRs (frozenRs (typ dNote eNoteO (frontD (List.take n_2000 l) n_0 i_12).1.disk.notes))/\(frontD (List.take n_2000 b) n_0 i_12).1.disk.safe=(frontD (List.take n_2000 l) n_0 i_12).1.disk.safe/\cnRs (frozenRs (typ dFTx eFTxO (frontD (List.take n_2000 b) n_0 i_12).1.way))=cnRs (frozenRs (typ dFTx eFTxO (frontD (List.take n_2000 l) n_0 i_12).1.way)))/\((froHr (List.take n_2000 b)).kind=(froHr (List.take n_2000 l)).kind/\(froHr (List.take n_2000 b)).to=(froHr (List.take n_2000 l)).to/\(froHr (List.take n_2000 b)).frm=(froHr (List.take n_2000 l)).frm/\(froHr (List.take n_2000 b)).tx=(froHr (List.take n_2000 l)).tx/\(froHr (List.take n_2000 b)).op.kind=(froHr (List.take n_2000 l)).op.kind/\(froHr (List.take n_2000 b)).op.who=(froHr (List.take n_2000 l)).op.who/\(froHr (List.take n_2000 b)).op.inn=(froHr (List.take n_2000 l)).op.inn/\(froHr (List.take n_2000 b)).op.code=(froHr (List.take n_2000 l)).op.code/\(froHr (List.take n_2000 b)).op.sec=(froHr (List.take n_2000 l)).op.sec/\(froHr (List.take n_2000 b)).op.fam=(froHr (List.take n_2000 l)).op.fam/\(froHr (List.take n_2000 b)).op.gen=(froHr (List.take n_2000 l)).op.gen)/\k_3/\(cnRs (frozenRs (typ dNote eNoteO (hearB b_2.1 b_2.2).1.disk.notes))=t_e x0.1/\(hearB b_2.1 b_2.2).1.disk.safe=x0.2.1/\cnRs (frozenRs (typ dFTx eFTxO (hearB b_2.1 b_2.2).1.way))=t_h x0.2.2.1)/\cnRs (frozenRs (typ dMsg eMsg (hearB b_2.1 b_2.2).2.1))=t_g x0.2.2.2.1/\cnRs (frozenRs (typ dFOut eFOut (hearB b_2.1 b_2.2).2.2))=t_k x0.2.2.2.2.1/\false=x0.2.2.2.2.2.1/\i_0=zi x0.2.2.2.2.2.2.1/\(cnRs (frozenRs (typ dNote eNoteO (hearB b_2.1 b_2.2).1.disk.notes))=t_e x0.2.2.2.2.2.2.2.1/\(hearB b_2.1 b_2.2).1.disk.safe=x0.2.2.2.2.2.2.2.2.1/\cnRs (frozenRs (typ dFTx eFTxO (hearB b_2.1 b_2.2).1.way))=t_h x0.2.2.2.2.2.2.2.2.2.1/\cnRs (frozenRs (typ dMsg eMsg (hearB b_2.1 b_2.2).2.1))=t_g x0.2.2.2.2.2.2.2.2.2.2.1/\cnRs (frozenRs (typ dFOut eFOut (hearB b_2.1 b_2.2).2.2))=t_k x0.2.2.2.2.2.2.2.2.2.2.2.1)/\(cnRs (frozenRs (typ dNote eNoteO (hearB b_2.1 b_2.2).1.disk.notes))=t_e x0.2.2.2.2.2.2.2.2.2.2.2.2.1/\(hearB b_2.1 b_2.2).1.disk.safe=x0.2.2.2.2.2.2.2.2.2.2.2.2.2.1/\cnRs (frozenRs (typ dFTx eFTxO (hearB b_2.1 b_2.2).1.way))=t_h x0.2.2.2.2.2.2.2.2.2.2.2.2.2.2.1/\cnRs (frozenRs (typ dMsg eMsg (hearB b_2.1 b_2.2).2.1))=t_g x0.2.2.2.2.2.2.2.2.2.2.2.2.2.2.2.1/\cnRs (frozenRs (typ dFOut eFOut (hearB b_2.1 b_2.2).2.2))=t_k x0.2.2.2.2.2.2.2.2.2.2.2.2.2.2.2.2.1)/\cnRs (frozenRs (typ dMsg eMsg (hearB b_2.1 b_2.2).2.1))=t_g x0.2.2.2.2.2.2.2.2.2.2.2.2.2.2.2.2.2.1/\cnRs (frozenRs (typ dFOut eFOut (hearB b_2.1 b_2.2).2.2))=t_k x0.2.2.2.2.2.2.2.2.2.2.2.2.2.2.2.2.2.2)/\pre x0/\(∀ (x:y_35),let k_8:Prop:=(zi x.2.2.2.1.length==i_1)=true;let k_7:Prop:=i_0<=i_0/\i_0<zi x.2.2.2.1.length;let k_6:Prop:=(zi x.2.2.2.1.length==i_1)=false->false=true;pre x->(decide (zi x.2.2.2.2.2.2.1<(zi (frontD (List.take n_2000 l) n_0 i_12).1.way.length))=true->(x.2.2.2.2.2.1=false->(i_0<=zi x.2.2.2.2.2.2.1/\zi x.2.2.2.2.2.2.1<(zi (frontD (List.take n_2000 l) n_0 i_12).1.way.length))/\(∃ (y:y_35),(k_2/\k_1/\k_3/\(q_e x.1 y.1/\x.2.1=y.2.1/\q_h x.2.2.1 y.2.2.1)/\q_g x.2.2.2.1 y.2.2.2.1/\q_k x.2.2.2.2.1 y.2.2.2.2.1/\((g_FTx (frontD (List.take n_2000 l) n_0 i_12).1.way x.2.2.2.2.2.2.1).tx==(froHr (List.take n_2000 l)).tx)=y.2.2.2.2.2.1/\wr_ ((zi x.2.2.2.2.2.2.1)+i_1)=zi y.2.2.2.2.2.2.1/\(q_e x.2.2.2.2.2.2.2.1 y.2.2.2.2.2.2.2.1/\x.2.2.2.2.2.2.2.2.1=y.2.2.2.2.2.2.2.2.1/\q_h x.2.2.2.2.2.2.2.2.2.1 y.2.2.2.2.2.2.2.2.2.1/\q_g x.2.2.2.2.2.2.2.2.2.2.1 y.2.2.2.2.2.2.2.2.2.2.1/\q_k x.2.2.2.2.2.2.2.2.2.2.2.1 y.2.2.2.2.2.2.2.2.2.2.2.1)/\(q_e x.2.2.2.2.2.2.2.2.2.2.2.2.1 y.2.2.2.2.2.2.2.2.2.2.2.2.1/\x.2.2.2.2.2.2.2.2.2.2.2.2.2.1=y.2.2.2.2.2.2.2.2.2.2.2.2.2.1/\q_h x.2.2.2.2.2.2.2.2.2.2.2.2.2.2.1 y.2.2.2.2.2.2.2.2.2.2.2.2.2.2.1/\q_g x.2.2.2.2.2.2.2.2.2.2.2.2.2.2.2.1 y.2.2.2.2.2.2.2.2.2.2.2.2.2.2.2.1/\q_k x.2.2.2.2.2.2.2.2.2.2.2.2.2.2.2.2.1 y.2.2.2.2.2.2.2.2.2.2.2.2.2.2.2.2.1)/\q_g x.2.2.2.2.2.2.2.2.2.2.2.2.2.2.2.2.2.1 y.2.2.2.2.2.2.2.2.2.2.2.2.2.2.2.2.2.1/\q_k x.2.2.2.2.2.2.2.2.2.2.2.2.2.2.2.2.2.2 y.2.2.2.2.2.2.2.2.2.2.2.2.2.2.2.2.2.2)/\pre y/\μ y<μ x))/\(x.2.2.2.2.2.1=true->∃ (y:y_35),(k_2/\k_1/\k_3/\(q_e x.1 y.1/\x.2.1=y.2.1/\q_h x.2.2.1 y.2.2.1)/\q_g x.2.2.2.1 y.2.2.2.1/\q_k x.2.2.2.2.1 y.2.2.2.2.1/\true=y.2.2.2.2.2.1/\wr_ ((zi x.2.2.2.2.2.2.1)+i_1)=zi y.2.2.2.2.2.2.1/\(q_e x.2.2.2.2.2.2.2.1 y.2.2.2.2.2.2.2.1/\x.2.2.2.2.2.2.2.2.1=y.2.2.2.2.2.2.2.2.1/\q_h x.2.2.2.2.2.2.2.2.2.1 y.2.2.2.2.2.2.2.2.2.1/\q_g x.2.2.2.2.2.2.2.2.2.2.1 y.2.2.2.2.2.2.2.2.2.2.1/\q_k x.2.2.2.2.2.2.2.2.2.2.2.1 y.2.2.2.2.2.2.2.2.2.2.2.1)/\(q_e x.2.2.2.2.2.2.2.2.2.2.2.2.1 y.2.2.2.2.2.2.2.2.2.2.2.2.1/\x.2.2.2.2.2.2.2.2.2.2.2.2.2.1=y.2.2.2.2.2.2.2.2.2.2.2.2.2.1/\q_h x.2.2.2.2.2.2.2.2.2.2.2.2.2.2.1 y.2.2.2.2.2.2.2.2.2.2.2.2.2.2.1/\q_g x.2.2.2.2.2.2.2.2.2.2.2.2.2.2.2.1 y.2.2.2.2.2.2.2.2.2.2.2.2.2.2.2.1/\q_k x.2.2.2.2.2.2.2.2.2.2.2.2.2.2.2.2.1 y.2.2.2.2.2.2.2.2.2.2.2.2.2.2.2.2.1)/\q_g x.2.2.2.2.2.2.2.2.2.2.2.2.2.2.2.2.2.1 y.2.2.2.2.2.2.2.2.2.2.2.2.2.2.2.2.2.1/\q_k x.2.2.2.2.2.2.2.2.2.2.2.2.2.2.2.2.2.2 y.2.2.2.2.2.2.2.2.2.2.2.2.2.2.2.2.2.2)/\pre y/\μ y<μ x))/\(decide (zi x.2.2.2.2.2.2.1<(zi (frontD (List.take n_2000 l) n_0 i_12).1.way.length))=false->∃ (b:Front×Front),((q_e x.1 b.1.disk.notes/\x.2.1=b.1.disk.safe/\q_h x.2.2.1 b.1.way)/\cnRs (frozenRs (typ dNote eNoteO (frontD (List.take n_2000 l) n_0 i_12).1.disk.notes))=t_e b.2.disk.notes/\(frontD (List.take n_2000 l) n_0 i_12).1.disk.safe=b.2.disk.safe/\cnRs (frozenRs (typ dFTx eFTxO (frontD (List.take n_2000 l) n_0 i_12).1.way))=t_h b.2.way)/\((!decide (b.1=b.2))=false->(((zi x.2.2.2.2.1.length) != i_0)=true->false=true)/\(((zi x.2.2.2.2.1.length) != i_0)=false->∃ (b:Disk×Int),((cnRs (frozenRs (typ dNote eNoteO (frontD (List.take n_2000 l) n_0 i_12).1.disk.notes))=t_e b.1.notes/\(frontD (List.take n_2000 l) n_0 i_12).1.disk.safe=b.1.safe)/\(froHr (List.take n_2000 l)).tx=b.2)/\(((if diskB b.1=true then ofN b.1.notes b.2 else i_0)==i_2)=true->(k_8->k_7/\(if false=true then !((x.2.2.2.1.getD (Int.toNat i_0) dMsg).kind==i_2&&((x.2.2.2.1.getD (Int.toNat i_0) dMsg).to==wr_ (i_1+(zi l.length).tmod i_3)&&((x.2.2.2.1.getD (Int.toNat i_0) dMsg).frm==i_0&&((x.2.2.2.1.getD (Int.toNat i_0) dMsg).tx==(froHr (List.take n_2000 l)).tx&&((x.2.2.2.1.getD (Int.toNat i_0) dMsg).op.kind==i_0&&((x.2.2.2.1.getD (Int.toNat i_0) dMsg).op.who==i_0&&((x.2.2.2.1.getD (Int.toNat i_0) dMsg).op.inn==i_0&&((x.2.2.2.1.getD (Int.toNat i_0) dMsg).op.code==i_0&&((x.2.2.2.1.getD (Int.toNat i_0) dMsg).op.sec==i_0&&((x.2.2.2.1.getD (Int.toNat i_0) dMsg).op.fam==i_0&&(x.2.2.2.1.getD (Int.toNat i_0) dMsg).op.gen==i_0)))))))))) else (x.2.2.2.1.getD (Int.toNat i_0) dMsg).kind==i_2&&((x.2.2.2.1.getD (Int.toNat i_0) dMsg).to==wr_ (i_1+(zi l.length).tmod i_3)&&((x.2.2.2.1.getD (Int.toNat i_0) dMsg).frm==i_0&&((x.2.2.2.1.getD (Int.toNat i_0) dMsg).tx==(froHr (List.take n_2000 l)).tx&&((x.2.2.2.1.getD (Int.toNat i_0) dMsg).op.kind==i_0&&((x.2.2.2.1.getD (Int.toNat i_0) dMsg).op.who==i_0&&((x.2.2.2.1.getD (Int.toNat i_0) dMsg).op.inn==i_0&&((x.2.2.2.1.getD (Int.toNat i_0) dMsg).op.code==i_0&&((x.2.2.2.1.getD (Int.toNat i_0) dMsg).op.sec==i_0&&((x.2.2.2.1.getD (Int.toNat i_0) dMsg).op.fam==i_0&&(x.2.2.2.1.getD (Int.toNat i_0) dMsg).op.gen==i_0))))))))))=true)/\k_6)/\(((if diskB b.1=true then ofN b.1.notes b.2 else i_0)==i_2)=false->(x.2.2.2.2.2.1=true->(zi x.2.2.2.1.length==i_0)=true)/\(x.2.2.2.2.2.1=false->(k_8->k_7/\(if false=true then !((x.2.2.2.1.getD (Int.toNat i_0) dMsg).kind==i_3&&((x.2.2.2.1.getD (Int.toNat i_0) dMsg).to==wr_ (i_1+(zi l.length).tmod i_3)&&((x.2.2.2.1.getD (Int.toNat i_0) dMsg).frm==i_0&&((x.2.2.2.1.getD (Int.toNat i_0) dMsg).tx==(froHr (List.take n_2000 l)).tx&&((x.2.2.2.1.getD (Int.toNat i_0) dMsg).op.kind==i_0&&((x.2.2.2.1.getD (Int.toNat i_0) dMsg).op.who==i_0&&((x.2.2.2.1.getD (Int.toNat i_0) dMsg).op.inn==i_0&&((x.2.2.2.1.getD (Int.toNat i_0) dMsg).op.code==i_0&&((x.2.2.2.1.getD (Int.toNat i_0) dMsg).op.sec==i_0&&((x.2.2.2.1.getD (Int.toNat i_0) dMsg).op.fam==i_0&&(x.2.2.2.1.getD (Int.toNat i_0) dMsg).op.gen==i_0)))))))))) else (x.2.2.2.1.getD (Int.toNat i_0) dMsg).kind==i_3&&((x.2.2.2.1.getD (Int.toNat i_0) dMsg).to==wr_ (i_1+(zi l.length).tmod i_3)&&((x.2.2.2.1.getD (Int.toNat i_0) dMsg).frm==i_0&&((x.2.2.2.1.getD (Int.toNat i_0) dMsg).tx==(froHr (List.take n_2000 l)).tx&&((x.2.2.2.1.getD (Int.toNat i_0) dMsg).op.kind==i_0&&((x.2.2.2.1.getD (Int.toNat i_0) dMsg).op.who==i_0&&((x.2.2.2.1.getD (Int.toNat i_0) dMsg).op.inn==i_0&&((x.2.2.2.1.getD (Int.toNat i_0) dMsg).op.code==i_0&&((x.2.2.2.1.getD (Int.toNat i_0) dMsg).op.sec==i_0&&((x.2.2.2.1.getD (Int.toNat i_0) dMsg).op.fam==i_0&&(x.2.2.2.1.getD (Int.toNat i_0) dMsg).op.gen==i_0))))))))))=true)/\k_6))))/\((!decide (b.1=b.2))=true->false=true)))))))/\(decide ((froHr (List.take n_2000 b)).tx<i_0)=true->k_5))/\((!froB b_1)=true->k_5))))=_ by kernel_rfl) ?_
 delta i_0 i_1 i_2 i_3 wr_ zi n_0 t_U q_U n_2000 i_7 i_29 i_12 t_e q_e t_g q_g g_FTx t_h q_h t_k q_k i_1048576 y_35
 simp (config:={ maxSteps:=2000000 }) only [zza,zzb,true_and,and_true,and_self,ne_eq,cI_app,cWrtO_app,cWrtS_app,cWrtO_1,cItemO_1,opr_ex,zcast,frz_nil,nil_map,Option.getD_none,Option.getD_some,if_true]
 intro _
 refine ⟨hpre,?_⟩
 generalize (frontD (List.take 2000 l) 0 12).1=f
 generalize froHr (List.take 2000 l)=m
 refine ⟨fun h1=>⟨fun h2=>⟨fun h3=>⟨fun _=>⟨(),trivial⟩,fun h=>by simp at h⟩,fun h3=>⟨by omega,?_⟩⟩,fun h2=>⟨fun _=>⟨(),trivial⟩,fun h=>by simp at h⟩⟩,fun h1=>⟨fun _=>⟨(),trivial⟩,fun h=>by simp at h⟩⟩
 have hf:okF f:=froB_iff.1 (by simpa using h1)
 have hw:=hf.wl
 have r1:=Int.tmod_nonneg 3 (by omega:0<=(l.length:Int))
 have r2:=Int.tmod_lt_of_pos (l.length:Int) (by omega:(0:Int)<3)
 generalize (l.length:Int).tmod 3=r at *
 have pl:IntKind.i64.wrap (1+r)=1+r:=IntWalk.i64_in _ (by omega)
 have hp:1<=1+r/\1+r<=3:=by omega
 have ht:0<=m.tx/\m.tx<=29:=by omega
 generalize 1+r=p at *
 have eH:hearB f ⟨7,0,p,m.tx,⟨0,0,0,0,0,0,0⟩⟩=(f,whatF f ⟨7,0,p,m.tx,⟨0,0,0,0,0,0,0⟩⟩,[]):=by rw [hearB_told hf (.inr (.inr rfl)) hp ht,what_eq hf]
 simp only [pl,eH]
 refine ⟨fun z=>z.1=f.disk.notes/\z.2.1=f.disk.safe/\z.2.2.1=f.way/\z.2.2.2.1=whatF f ⟨7,0,p,m.tx,⟨0,0,0,0,0,0,0⟩⟩/\z.2.2.2.2.1=[]/\z.2.2.2.2.2.2.1<=f.way.length/\(z.2.2.2.2.2.1=true↔∃ i,i<z.2.2.2.2.2.2.1/\(f.way.getD i dFTx).tx=m.tx),⟨rfl,rfl,rfl,rfl,rfl,by simp,by simp⟩,fun z=>f.way.length-z.2.2.2.2.2.2.1,?_⟩
 intro a a1 a2 a3 a4 a5 k b1 b2 b3 b4 b5 b6 b7 b8 b9 b10 b11 b12 hz
 simp only at hz
 obtain ⟨rfl,rfl,rfl,rfl,rfl,hk,hb⟩:=hz
 refine ⟨fun hlt=>⟨fun h5=>⟨by omega,hlt,k+1,wrapN (by omega),⟨rfl,rfl,rfl,rfl,rfl,by simp only;omega,?_⟩,by simp only;omega⟩,fun h5=>⟨k+1,wrapN (by omega),⟨rfl,rfl,rfl,rfl,rfl,by simp only;omega,?_⟩,by simp only;omega⟩⟩,fun hge=>⟨fun _=>⟨fun h=>absurd rfl h,fun _=>⟨fun hd=>?_,fun hd=>⟨fun h5=>?_,fun h5=>?_⟩⟩⟩,fun h=>by simp at h⟩⟩
 ·simp only [beq_iff_eq,decide_eq_true_eq]
  refine ⟨fun h=>⟨k,by omega,h⟩,fun ⟨i,hi,h⟩=>?_⟩
  rcases Nat.lt_or_ge i k with h6 | h6
  ·rw [hb.2 ⟨i,h6,h⟩] at h5;cases h5
  ·obtain rfl:i=k:=by omega
   exact h
 ·obtain ⟨i,hi,h⟩:=hb.1 h5
  exact ⟨fun _=>⟨i,by simp only;omega,h⟩,fun _=>rfl⟩
 ·rw [if_pos hf.fd] at hd
  have e:whatF f ⟨7,0,p,m.tx,⟨0,0,0,0,0,0,0⟩⟩=sendF 2 m.tx dOpr [p]:=by simp only [whatF,if_pos hd]
  rw [e]
  exact ⟨fun _=>⟨by omega,by simp [sendF],by simp [sendF,dOpr]⟩,fun h=>absurd rfl h⟩
 ·rw [if_pos hf.fd] at hd
  obtain ⟨i,hi,h⟩:=hb.1 h5
  have hA:=hf.at_eq (k:=i) (by omega)
  rw [h] at hA
  have e:whatF f ⟨7,0,p,m.tx,⟨0,0,0,0,0,0,0⟩⟩=[]:=by simp only [whatF,if_neg hd];rw [if_pos (by omega)]
  rw [e]<;>rfl
 ·rw [if_pos hf.fd] at hd
  have hA:atF f.way m.tx=-1:=at_lt' fun t ht he=>by
   obtain ⟨i,hi,rfl⟩:=List.getElem_of_mem ht
   rw [hb.2 ⟨i,by omega,by rw [getD_lt hi];exact he⟩] at h5;cases h5
  have e:whatF f ⟨7,0,p,m.tx,⟨0,0,0,0,0,0,0⟩⟩=sendF 3 m.tx dOpr [p]:=by simp only [whatF,if_neg hd];rw [if_neg (by omega)]
  rw [e]
  exact ⟨fun _=>⟨by omega,by simp [sendF],by simp [sendF,dOpr]⟩,fun h=>absurd rfl h⟩
end Go.Proofs.AI
