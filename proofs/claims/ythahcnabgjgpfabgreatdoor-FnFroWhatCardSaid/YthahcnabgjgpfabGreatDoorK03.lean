/- Data, how they lie in memory, and contracts of functions. Conditions: none. -/
import Derived.KernelRfl
import Derived.Shelf.Strings.SlTrimAscii
import Derived.Test.YthahcnabgjgpfabGreatDoorShelf
import Derived.ArgAppend
import Derived.Deep.AppendSrc
import Derived.Laws.IdiomCopy
import Derived.Shelf.RegionOpenPlain
import Derived.WalkKit
import Derived.Deep.LoopGhost
import Derived.Deep.RegionLaw
import Derived.Lib.Walk
import Derived.Lib.SliceRun
import Derived.Lib.AppendZerosOnto
import Derived.Lib.Overlaps
import Derived.Laws.Externs
import Derived.Shelf.Spec.SlicesInsertGrow
import Derived.Test.YthahcnabgjgpfabGreatDoorK02
namespace Go.Proofs.AI
open Go.RowKit Go.Proofs
set_option linter.unusedVariables false
set_option linter.unusedSimpArgs false
set_option maxRecDepth 100000
theorem cWrtO_app (a b:List Wrt):cnRs (appR (typ dWrt eWrtO a) (typ dWrt eWrtO b))=(a++b).map nWrtO:=by simp
theorem cWrtS_app (a b:List Wrt):cnRs (appR (typ dWrt eWrtS a) (typ dWrt eWrtS b))=(a++b).map nWrtS:=by simp
theorem cWrtO_1 (a:List Wrt) (k:ByteArray) (d:Bool) (v:List Int):cnRs (appR (typ dWrt eWrtO a) (raw [[CV.s k,CV.b d,CV.ow tI (typ 0 eI v)]]))=(a++[(⟨k,d,v⟩:Wrt)]).map nWrtO:=by simp
theorem cItemO_1 (a:List Item) (k:ByteArray) (v:List Int):cnRs (appR (typ dItem eItemO a) (raw [[CV.s k,CV.ow tI (typ 0 eI v)]]))=(a++[(⟨k,v⟩:Item)]).map nItemO:=by simp
theorem opr_ex {o:Opr} {P:Opr->Prop}:(∃ x:Opr,o.kind=x.kind/\o.who=x.who/\o.inn=x.inn/\o.code=x.code/\o.sec=x.sec/\o.fam=x.fam/\o.gen=x.gen/\P x)↔P o :=
 ⟨fun ⟨x,h1,h2,h3,h4,h5,h6,h7,h⟩=>by cases o;cases x;simp_all,fun h=>⟨o,rfl,rfl,rfl,rfl,rfl,rfl,rfl,h⟩⟩
theorem zcast {x:Nat}:((0:Int)=(x:Int))↔0=x:=by omega
theorem frz_nil:frozenRs (nilR:Rows CV)=nilR:=rfl
theorem nil_map {α:Type} {g:α->List CV} {a:List α}:([]=a.map g)↔[]=a:=by cases a<;>simp
theorem pick4_ok (l:List Int) (p:Nat) (h:rdB l p 1):FunOK Tryz.prog 58 2 [0] [(0,kRd l p),(1,kI 4)] (·=bif pickB l p 4==0 then [(2,kI 0),(0,kRd l (p+1))] else bif pickB l p 4==1 then [(2,kI 1),(0,kRd l (p+1))] else bif pickB l p 4==2 then [(2,kI 2),(0,kRd l (p+1))] else [(2,kI 3),(0,kRd l (p+1))]):=by
 have h1:=spec_rd_pick_ok l p 4 h
 have h2:=pick_lt h (n:=4) (by omega)
 rcases (by omega:pickB l p 4=0∨pickB l p 4=1∨pickB l p 4=2∨pickB l p 4=3) with e | e | e | e<;>rw [e] at h1 ⊢<;>exact h1
def pick4_c:Con Tryz.prog:=⟨58,2,[.ptr,.lend],[0],List Int×Nat,some fun b=>rdB b.1 b.2 1,fun b=>[(0,kRd b.1 b.2),(1,kI 4)],fun b=>[(2,kI 3),(0,kRd b.1 (b.2+1))],[(fun b=>pickB b.1 b.2 4==0,fun b=>[(2,kI 0),(0,kRd b.1 (b.2+1))]),(fun b=>pickB b.1 b.2 4==1,fun b=>[(2,kI 1),(0,kRd b.1 (b.2+1))]),(fun b=>pickB b.1 b.2 4==2,fun b=>[(2,kI 2),(0,kRd b.1 (b.2+1))])],fun b h=>pick4_ok b.1 b.2 h⟩
@[simp] theorem cI_app (a b:List Int):cnRs (appR (typ 0 eI a) (typ 0 eI b))=(a++b).map nI:=by simp
def valR (l:List Int):Nat->List Int->Nat->List Int×Nat
 | 0,xs,p=>(xs,p)
 | k+1,xs,p=>valR l k (xs++[pickB l p 12]) (p+1)
def valD (l:List Int) (p:Nat) (n:Int):List Int×Nat :=
 let a:=valR l (pickB l (p+1) 3).toNat [pickB l p 4] (p+2)
 let q:=oddB l a.2 n
 if q.1=true then ([[],[-1],[10000],[1,2,3,4]].getD (pickB l q.2 4).toNat [],q.2+1) else (a.1,q.2)
theorem spec_l20Val_ok (l:List Int) (p:Nat) (n:Int) (hpre:rdB l p 6/\n<1000000):FunOK Tryz.prog 210 2 [0] [(0,kRd l p),(1,kI n)] (·=[(2,k1 (oI (valD l p n).1)),(0,kRd l (valD l p n).2)]):=by
 refine fun_to (E:=⟨tab,ctOf [spec_rd_pick_c,spec_rd_odd_c],34,[0],[(0,[0,1,5,8,9,16,18,19,20,24,25,26,27,28,30,31,32,33]),(1,[0,1,5,8,9,16,18,19,20,24,25,26,27,28,30,31,32,33]),(2,[0,1,5,6,8,9,16,18,19,20,24,25,26,27,28,30,31,32,33]),(3,[0,1,5,6,8,9,13,16,18,19,20,24,25,26,27,28,30,31,32,33]),(4,[0,1,5,6,8,9,16,18,19,20,24,25,26,27,28,30,31,32,33]),(5,[0,1,5,6,8,9,16,18,19,20,24,25,26,27,28,30,31,32,33]),(6,[0,5,8,9,16,18,19,20,23,24,25,26,27,28,30,31,32,33]),(7,[0,4,5,8,9,16,18,19,20,24,25,26,27,28,30,31,32,33]),(8,[0,4,5,8,9,16,18,19,20,24,25,26,27,28,30,31,32,33])],[(0,⟨List Int×Nat×List Int×Int×Int,fun x=>[(0,⟨.box,[.c (sU (x.1)),.c (.n .i64 (x.2.1:Int))],[]⟩),(1,(k1 (.n .i64 n))),(5,(k1 (oI (x.2.2.1)))),(6,(k1 (.n .i64 (x.2.2.2.1)))),(8,(k1 (.n .i64 (x.2.2.2.2)))),(9,(k1 .any))]⟩)],[(5,[(1000000,[])]),(8,[(1000000,[])])],[],[(7,[pick4_c])]⟩) tab_ok mixed Tryz.func210 rfl Tryz.ntmps210 (rvs:=[.tmp 4]) Tryz.results210 rfl fun hl=>?_
 refine cast (show (∃ (b:y_6),((q_U l b.1/\zi p=zi b.2.1)/\i_4=b.2.2)/\rdB b.1 b.2.1 n_1/\(∃ (b_1:y_6),((q_U b.1 b_1.1/\(zi (b.2.1+n_1))=zi b_1.2.1)/\i_3=b_1.2.2)/\rdB b_1.1 b_1.2.1 n_1/\(∃ (pre:y_8->Prop),∃ (μ:y_8->Nat),∃ (x0:y_8),((q_U b_1.1 x0.1/\(zi (b_1.2.1+n_1))=zi x0.2.1)/\n=n/\cnRs (typ i_0 (fun (y:Int)=>[cn_ y]) [pickB b.1 b.2.1 b.2.2])=t_I x0.2.2.1/\pickB b_1.1 b_1.2.1 b_1.2.2=x0.2.2.2.1/\pickB b.1 b.2.1 b.2.2=x0.2.2.2.2/\True)/\pre x0/\(∀ (x:y_8),pre x->(decide (x.2.2.2.1>i_0)=true->∃ (b:y_6),((q_U x.1 b.1/\zi x.2.1=zi b.2.1)/\i_12=b.2.2)/\rdB b.1 b.2.1 n_1/\(x.2.2.1.length+n_1)*n_8<=n_140737488355328/\(∃ (y:y_8),((q_U b.1 y.1/\(zi (b.2.1+n_1))=zi y.2.1)/\n=n/\cnRs (appR (typ i_0 eI x.2.2.1) (typ i_0 (fun (y:Int)=>[cn_ y]) [pickB b.1 b.2.1 b.2.2]))=t_I y.2.2.1/\wr_ (x.2.2.2.1-i_1)=y.2.2.2.1/\x.2.2.2.2=y.2.2.2.2/\True)/\pre y/\μ y<μ x))/\(decide (x.2.2.2.1>i_0)=false->∃ (b:y_6),((q_U x.1 b.1/\zi x.2.1=zi b.2.1)/\n=b.2.2)/\(rdB b.1 b.2.1 n_1/\b.2.2<i_1000000)/\((oddB b.1 b.2.1 b.2.2).1=true->∃ (b_2:List Int×Nat),let k_1:Prop:=q_U b_2.1 l/\(zi (b_2.2+n_1))=(zi (valD l p n).2);((q_U b.1 b_2.1/\(zi (oddB b.1 b.2.1 b.2.2).2)=zi b_2.2)/\i_4=i_4)/\rdB b_2.1 b_2.2 n_1/\((pickB b_2.1 b_2.2 i_4==i_0)=true->(i_0<=i_0/\i_0<zi n_4)/\n_0<n_4/\cnRs (raw [])=t_I (valD l p n).1/\k_1)/\((pickB b_2.1 b_2.2 i_4==i_0)=false->((pickB b_2.1 b_2.2 i_4==i_1)=true->(i_0<=i_1/\i_1<zi n_4)/\n_1<n_4/\cnRs (typ i_0 (fun (y:Int)=>[cn_ y]) [(-1:Int)])=t_I (valD l p n).1/\k_1)/\((pickB b_2.1 b_2.2 i_4==i_1)=false->((pickB b_2.1 b_2.2 i_4==i_2)=true->(i_0<=i_2/\i_2<zi n_4)/\n_2<n_4/\cnRs (typ i_0 (fun (y:Int)=>[cn_ y]) [i_10000])=t_I (valD l p n).1/\k_1)/\((pickB b_2.1 b_2.2 i_4==i_2)=false->(i_0<=i_3/\i_3<zi n_4)/\n_3<n_4/\cnRs (typ i_0 (fun (y:Int)=>[cn_ y]) [i_1,i_2,i_3,i_4])=t_I (valD l p n).1/\k_1))))/\((oddB b.1 b.2.1 b.2.2).1=false->q_I x.2.2.1 (valD l p n).1/\q_U b.1 l/\(zi (oddB b.1 b.2.1 b.2.2).2)=(zi (valD l p n).2)))))))=_ by kernel_rfl) ?_
 delta i_0 i_1 i_2 i_3 i_4 wr_ zi t_I q_I n_0 n_8 n_140737488355328 n_1 n_3 cn_ n_2 i_1000000 t_U q_U y_6 i_12 n_4 i_10000 y_8
 have hp:=hpre.1
 have b1:=pick_lt (p:=p+1) (n:=3) (rdB_le hp (by omega):rdB l (p+1) 1) (by omega)
 simp only [zza,true_and,and_true,and_self,ne_eq,cI_app,cWrtO_app,cWrtS_app,cWrtO_1,cItemO_1,opr_ex,zcast,frz_nil,nil_map]
 refine ⟨rdB_le hp (by omega),rdB_le hp (by omega),fun x=>x.1=l/\0<=x.2.2.2.1/\valR l x.2.2.2.1.toNat x.2.2.1 x.2.1=valR l (pickB l (p+1) 3).toNat [pickB l p 4] (p+2)/\(x.2.1:Int)+x.2.2.2.1<=p+4/\x.2.2.1.length+x.2.2.2.1.toNat<=3,⟨rfl,b1.1,by simp only [Nat.add_assoc],by simp only;omega,by simp only [List.length_singleton];omega⟩,fun x=>x.2.2.2.1.toNat,fun a q xs k j hx=>?_⟩
 obtain ⟨rfl,h1,h2,h3,h4⟩:=hx
 simp only at h1 h2 h3 h4
 refine ⟨fun hk=>?_,fun hk=>?_⟩
 ·have e:IntKind.i64.wrap (k-1)=k-1:=IntWalk.i64_in _ (by omega)
  simp only [e,true_and]
  obtain ⟨m,rfl⟩:∃ m:Nat,k=(m:Int)+1:=⟨(k-1).toNat,by omega⟩
  have e2:((m:Int)+1).toNat=m+1:=by omega
  have e3:((m:Int)+1-1).toNat=m:=by omega
  rw [e2,valR] at h2
  simp only [e3,e2]
  refine ⟨rdB_le hp (by omega),by omega,⟨by omega,h2,by omega,?_⟩,by omega⟩
  simp only [List.length_append,List.length_singleton];omega
 ·obtain rfl:k=0:=by omega
  have h5:=pick_lt (p:=(oddB a q n).2) (n:=4) (rdB_le hp (by have:=odd_le a q n;simp at h3;omega):rdB a (oddB a q n).2 1) (by omega)
  simp only [Int.toNat_zero,valR] at h2
  have hv:valD a p n=if (oddB a q n).1=true then ([[],[-1],[10000],[1,2,3,4]].getD (pickB a (oddB a q n).2 4).toNat [],(oddB a q n).2+1) else (xs,(oddB a q n).2):=by
   simp only [valD,<- h2]
  rw [hv]
  refine ⟨rdB_le hp (by simp at h3;omega),hpre.2,fun ho=>⟨rdB_le hp (by have:=odd_le a q n;simp at h3;omega),?_⟩,fun ho=>by simp [ho]⟩
  rw [if_pos ho]
  rcases (by omega:pickB a (oddB a q n).2 4=0∨pickB a (oddB a q n).2 4=1∨pickB a (oddB a q n).2 4=2∨pickB a (oddB a q n).2 4=3) with e | e | e | e<;>simp [e]
def spec_l20Val_c:Con Tryz.prog:=conP [.ptr,.lend] fun (b:List Int×Nat×Int) h=>spec_l20Val_ok (b.1) (b.2.1) (b.2.2) h
def kLets:List ByteArray:=[⟨#[115]⟩,⟨#[99]⟩,⟨#[102]⟩,⟨#[117]⟩,⟨#[97]⟩]
def kOdds:List ByteArray:=[⟨#[]⟩,⟨#[115]⟩,⟨#[83,49]⟩,⟨#[115,49,50,51]⟩,⟨#[49,115]⟩,⟨#[115,97]⟩]
def keyD (l:List Int) (p:Nat) (n:Int):ByteArray×Nat :=
 let s:=kLets.getD (pickB l p 5).toNat ByteArray.empty++natS ([pickB l (p+1) 4,pickB l (p+2) 30].getD (pickB l (p+3) 2).toNat 0).toNat
 let q:=oddB l (p+4) n
 if q.1=true then (kOdds.getD (pickB l q.2 6).toNat ByteArray.empty,q.2+1) else (s,q.2)
theorem spec_l20Key_ok (l:List Int) (p:Nat) (n:Int) (hpre:rdB l p 6/\n<1000000):FunOK Tryz.prog 182 2 [0] [(0,kRd l p),(1,kI n)] (·=[(2,kS (keyD l p n).1),(0,kRd l (keyD l p n).2)]):=by
 refine fun_to (E:=⟨tab,ctOf [spec_rd_pick_c,spec_rd_odd_c,spec_l3Plain_c],31,[0],[(0,[0,1]),(1,[0,1,5]),(2,[0,5,24]),(3,[0,4]),(4,[0,4])],[],[],[],[]⟩) tab_ok mixed Tryz.func182 rfl Tryz.ntmps182 (rvs:=[.tmp 4]) Tryz.results182 rfl fun hl=>?_
 refine cast (show (∃ (b:y_6),((q_U l b.1/\zi p=zi b.2.1)/\i_5=b.2.2)/\rdB b.1 b.2.1 n_1/\(i_0<=pickB b.1 b.2.1 b.2.2/\pickB b.1 b.2.1 b.2.2<zi n_5)/\(pickB b.1 b.2.1 b.2.2).toNat<n_5/\∃ (b_1:y_6),((q_U b.1 b_1.1/\(zi (b.2.1+n_1))=zi b_1.2.1)/\i_4=b_1.2.2)/\rdB b_1.1 b_1.2.1 n_1/\∃ (b_2:y_6),((q_U b_1.1 b_2.1/\(zi (b_1.2.1+n_1))=zi b_2.2.1)/\i_30=b_2.2.2)/\rdB b_2.1 b_2.2.1 n_1/\∃ (b_3:y_6),((q_U b_2.1 b_3.1/\(zi (b_2.2.1+n_1))=zi b_3.2.1)/\i_2=b_3.2.2)/\rdB b_3.1 b_3.2.1 n_1/\(i_0<=pickB b_3.1 b_3.2.1 b_3.2.2/\pickB b_3.1 b_3.2.1 b_3.2.2<zi n_2)/\(pickB b_3.1 b_3.2.1 b_3.2.2).toNat<n_2/\∃ (b_4:Int),[pickB b_1.1 b_1.2.1 b_1.2.2,pickB b_2.1 b_2.2.1 b_2.2.2].getD (pickB b_3.1 b_3.2.1 b_3.2.2).toNat i_0=b_4/\(i_0<=b_4/\b_4<=i_1000000)/\([(ByteArray.mk #[(115:UInt8)]),(ByteArray.mk #[(99:UInt8)]),(ByteArray.mk #[(102:UInt8)]),(ByteArray.mk #[(117:UInt8)]),(ByteArray.mk #[(97:UInt8)])].getD (pickB b.1 b.2.1 b.2.2).toNat ByteArray.empty).size+(natS b_4.toNat).size<=n_9223372036854775807/\∃ (b_5:y_6),((q_U b_3.1 b_5.1/\(zi (b_3.2.1+n_1))=zi b_5.2.1)/\n=b_5.2.2)/\(rdB b_5.1 b_5.2.1 n_1/\b_5.2.2<i_1000000)/\((oddB b_5.1 b_5.2.1 b_5.2.2).1=true->∃ (b:y_6),((q_U b_5.1 b.1/\(zi (oddB b_5.1 b_5.2.1 b_5.2.2).2)=zi b.2.1)/\i_6=b.2.2)/\rdB b.1 b.2.1 n_1/\(i_0<=pickB b.1 b.2.1 b.2.2/\pickB b.1 b.2.1 b.2.2<zi n_6)/\(pickB b.1 b.2.1 b.2.2).toNat<n_6/\[(ByteArray.mk #[]),(ByteArray.mk #[(115:UInt8)]),(ByteArray.mk #[(83:UInt8),(49:UInt8)]),(ByteArray.mk #[(115:UInt8),(49:UInt8),(50:UInt8),(51:UInt8)]),(ByteArray.mk #[(49:UInt8),(115:UInt8)]),(ByteArray.mk #[(115:UInt8),(97:UInt8)])].getD (pickB b.1 b.2.1 b.2.2).toNat ByteArray.empty=(keyD l p n).1/\q_U b.1 l/\(zi (b.2.1+n_1))=(zi (keyD l p n).2))/\((oddB b_5.1 b_5.2.1 b_5.2.2).1=false->[(ByteArray.mk #[(115:UInt8)]),(ByteArray.mk #[(99:UInt8)]),(ByteArray.mk #[(102:UInt8)]),(ByteArray.mk #[(117:UInt8)]),(ByteArray.mk #[(97:UInt8)])].getD (pickB b.1 b.2.1 b.2.2).toNat ByteArray.empty++natS b_4.toNat=(keyD l p n).1/\q_U b_5.1 l/\(zi (oddB b_5.1 b_5.2.1 b_5.2.2).2)=(zi (keyD l p n).2)))=_ by kernel_rfl) ?_
 delta i_0 i_5 i_2 i_4 zi n_1 n_9223372036854775807 n_2 i_1000000 t_U q_U y_6 i_6 n_5 i_30 n_6
 have hp:=hpre.1
 have b1:=pick_lt (p:=p) (n:=5) (rdB_le hp (by omega):rdB l p 1) (by omega)
 simp only [zza,true_and,and_true,and_self,ne_eq,cI_app,cWrtO_app,cWrtS_app,cWrtO_1,cItemO_1,opr_ex,zcast,frz_nil,nil_map]
 have b2:=pick_lt (p:=p+1+1+1) (n:=2) (rdB_le hp (by omega):rdB l (p+1+1+1) 1) (by omega)
 have b3:=pick_lt (p:=p+1) (n:=4) (rdB_le hp (by omega):rdB l (p+1) 1) (by omega)
 have b4:=pick_lt (p:=p+1+1) (n:=30) (rdB_le hp (by omega):rdB l (p+1+1) 1) (by omega)
 have hod:=odd_le l (p+1+1+1+1) n
 have b5:=pick_lt (p:=(oddB l (p+1+1+1+1) n).2) (n:=6) (rdB_le hp (by omega):rdB l (oddB l (p+1+1+1+1) n).2 1) (by omega)
 have b6:0<=[pickB l (p+1) 4,pickB l (p+1+1) 30].getD (pickB l (p+1+1+1) 2).toNat 0/\[pickB l (p+1) 4,pickB l (p+1+1) 30].getD (pickB l (p+1+1+1) 2).toNat 0<30:=by
  rcases (by omega:pickB l (p+1+1+1) 2=0∨pickB l (p+1+1+1) 2=1) with e | e<;>rw [e]<;>simp<;>omega
 have b7:=natS_size ([pickB l (p+1) 4,pickB l (p+1+1) 30].getD (pickB l (p+1+1+1) 2).toNat 0).toNat (by omega)
 have b8:∀ k,(kLets.getD k ByteArray.empty).size<=1:=fun k=>by
  rcases (by omega:k=0∨k=1∨k=2∨k=3∨k=4∨5<=k) with e | e | e | e | e | e
  all_goals first | (subst e;decide) | (rw [List.getD_eq_getElem?_getD,List.getElem?_eq_none (by simpa [kLets] using e)];decide)
 have b9:=b8 (pickB l p 5).toNat
 have hv:keyD l p n=if (oddB l (p+1+1+1+1) n).1=true then (kOdds.getD (pickB l (oddB l (p+1+1+1+1) n).2 6).toNat ByteArray.empty,(oddB l (p+1+1+1+1) n).2+1) else (kLets.getD (pickB l p 5).toNat ByteArray.empty++natS ([pickB l (p+1) 4,pickB l (p+1+1) 30].getD (pickB l (p+1+1+1) 2).toNat 0).toNat,(oddB l (p+1+1+1+1) n).2):=rfl
 rw [hv]
 simp only [kLets] at b9
 refine ⟨rdB_le hp (by omega),b1.1,b1.2,by omega,rdB_le hp (by omega),rdB_le hp (by omega),rdB_le hp (by omega),b2.1,b2.2,by omega,b6.1,by omega,by omega,rdB_le hp (by omega),hpre.2,fun ho=>⟨rdB_le hp (by omega),b5.1,b5.2,by omega,?_,?_⟩,fun ho=>⟨?_,?_⟩⟩<;>simp only [ho,if_true,if_false,Bool.false_eq_true]<;>rfl
def spec_l20Key_c:Con Tryz.prog:=conP [.ptr,.lend] fun (b:List Int×Nat×Int) h=>spec_l20Key_ok (b.1) (b.2.1) (b.2.2) h
theorem key_le (l:List Int) (p:Nat) (n:Int):(keyD l p n).2<=p+6:=by
 have:=odd_le l (p+4) n
 simp only [keyD];split<;>simp only<;>omega
theorem valR_le (l:List Int):∀ (k:Nat) (xs:List Int) (p:Nat),(valR l k xs p).2=p+k
 | 0,xs,p=>rfl
 | k+1,xs,p=>by rw [valR,valR_le];omega
theorem val_le {l:List Int} {p:Nat} (n:Int) (h:rdB l p 2):(valD l p n).2<=p+6:=by
 have b1:=pick_lt (p:=p+1) (n:=3) (rdB_le h (by omega):rdB l (p+1) 1) (by omega)
 have:=odd_le l (valR l (pickB l (p+1) 3).toNat [pickB l p 4] (p+2)).2 n
 rw [valR_le] at this
 simp only [valD];split<;>simp only [valR_le] at *<;>omega
def wrtD (l:List Int) (p:Nat) (n:Int):Wrt×Nat :=
 let k:=keyD l p n
 if pickB l k.2 3=0 then
  let q:=oddB l (k.2+1) n
  (⟨k.1,true,if q.1=true then [1] else []⟩,q.2)
 else
  let v:=valD l (k.2+1) n
  (⟨k.1,false,v.1⟩,v.2)
abbrev kWrtO (x:Wrt):Ky:=⟨.agg,[.c (.s x.key),.c (.b x.del),.c (oI x.val)],[]⟩
theorem spec_l20Write_ok (l:List Int) (p:Nat) (n:Int) (hpre:rdB l p 13/\n<1000000):FunOK Tryz.prog 183 2 [0] [(0,kRd l p),(1,kI n)] (·=[(2,kWrtO (wrtD l p n).1),(0,kRd l (wrtD l p n).2)]):=by
 refine fun_to (E:=⟨tab,ctOf [spec_rd_pick_c,spec_rd_odd_c,spec_l20Key_c,spec_l20Val_c],25,[0],[(0,[0,1,4,5,19,24]),(1,[0,1,4,5,19,24]),(2,[0,1,4,5,12,19,24]),(3,[0,1,4,5,19,24]),(4,[0,4,5,16,19,24]),(5,[0,4,5,19,24]),(6,[0,4,5,19,24]),(7,[0,4,5,19,24]),(8,[0,4,5,19,24])],[],[],[],[]⟩) tab_ok mixed Tryz.func183 rfl Tryz.ntmps183 (rvs:=[.cell 4 102]) Tryz.results183 rfl fun hl=>?_
 refine cast (show (∃ (b:y_6),let k_1:Prop:=(keyD b.1 b.2.1 b.2.2).1=(wrtD l p n).1.key;((q_U l b.1/\zi p=zi b.2.1)/\n=b.2.2)/\(rdB b.1 b.2.1 n_6/\b.2.2<i_1000000)/\(∃ (b_1:y_6),((q_U b.1 b_1.1/\(zi (keyD b.1 b.2.1 b.2.2).2)=zi b_1.2.1)/\i_3=b_1.2.2)/\rdB b_1.1 b_1.2.1 n_1/\((pickB b_1.1 b_1.2.1 b_1.2.2==i_0)=true->∃ (b_2:y_6),let k_2:Prop:=q_U b_2.1 l/\(zi (oddB b_2.1 b_2.2.1 b_2.2.2).2)=(zi (wrtD l p n).2);((q_U b_1.1 b_2.1/\(zi (b_1.2.1+n_1))=zi b_2.2.1)/\n=b_2.2.2)/\(rdB b_2.1 b_2.2.1 n_1/\b_2.2.2<i_1000000)/\((oddB b_2.1 b_2.2.1 b_2.2.2).1=true->(k_1/\true=(wrtD l p n).1.del/\cnRs (typ i_0 (fun (y:Int)=>[cn_ y]) [i_1])=t_I (wrtD l p n).1.val)/\k_2)/\((oddB b_2.1 b_2.2.1 b_2.2.2).1=false->(k_1/\true=(wrtD l p n).1.del/\cnRs nilR=t_I (wrtD l p n).1.val)/\k_2))/\((pickB b_1.1 b_1.2.1 b_1.2.2==i_0)=false->∃ (b_2:y_6),((q_U b_1.1 b_2.1/\(zi (b_1.2.1+n_1))=zi b_2.2.1)/\n=b_2.2.2)/\(rdB b_2.1 b_2.2.1 n_6/\b_2.2.2<i_1000000)/\(k_1/\false=(wrtD l p n).1.del/\q_I (valD b_2.1 b_2.2.1 b_2.2.2).1 (wrtD l p n).1.val)/\q_U b_2.1 l/\(zi (valD b_2.1 b_2.2.1 b_2.2.2).2)=(zi (wrtD l p n).2))))=_ by kernel_rfl) ?_
 delta i_0 i_1 i_3 zi t_I q_I n_1 cn_ i_1000000 t_U q_U y_6 n_6
 have hp:=hpre.1
 have hk:=key_le l p n
 simp only [zza,true_and,and_true,and_self,ne_eq,cI_app,cWrtO_app,cWrtS_app,cWrtO_1,cItemO_1,opr_ex,zcast,frz_nil,nil_map]
 refine ⟨rdB_le hp (by omega),hpre.2,rdB_le hp (by omega),fun h0=>⟨rdB_le hp (by omega),hpre.2,fun ho=>?_,fun ho=>?_⟩,fun h0=>⟨rdB_le hp (by omega),hpre.2,?_⟩⟩
 all_goals simp [wrtD, *]
def spec_l20Write_c:Con Tryz.prog:=conP [.ptr,.lend] fun (b:List Int×Nat×Int) h=>spec_l20Write_ok (b.1) (b.2.1) (b.2.2) h
theorem wrt_le {l:List Int} {p:Nat} (n:Int) (h:rdB l p 9):(wrtD l p n).2<=p+13:=by
 have h1:=key_le l p n
 have h2:=val_le (l:=l) (p:=(keyD l p n).2+1) n (rdB_le h (by omega))
 have h3:=odd_le l ((keyD l p n).2+1) n
 simp only [wrtD];split<;>simp only<;>omega
def wrtsR (l:List Int):Nat->List Wrt->Nat->List Wrt×Nat
 | 0,xs,p=>(xs,p)
 | k+1,xs,p=>wrtsR l k (xs++[(wrtD l p 0).1]) (wrtD l p 0).2
def wrtsD (l:List Int) (p:Nat) (n:Int):List Wrt×Nat :=
 let a:=wrtsR l (pickB l p 6).toNat [] (p+1)
 let q:=oddB l a.2 n
 if q.1=true then (a.1++[(wrtD l q.2 2).1],(wrtD l q.2 2).2) else (a.1,q.2)
theorem spec_l20Writes_ok (l:List Int) (p:Nat) (n:Int) (hpre:rdB l p 80/\n<1000000):FunOK Tryz.prog 181 2 [0] [(0,kRd l p),(1,kI n)] (·=[(2,k1 (oWrts (wrtsD l p n).1)),(0,kRd l (wrtsD l p n).2)]):=by
 refine fun_to (E:=⟨tab,ctOf [spec_rd_pick_c,spec_rd_odd_c,spec_l20Write_c],28,[0],[(0,[0,1,5,7,14,16,17,18,22,24,25,26]),(1,[0,1,5,7,14,16,17,18,22,24,25,26]),(2,[0,1,5,6,7,14,16,17,18,22,24,25,26]),(3,[0,1,5,6,7,11,14,16,17,18,22,24,25,26]),(4,[0,1,5,6,7,14,16,17,18,22,24,25,26]),(5,[0,1,5,6,7,14,16,17,18,22,24,25,26]),(6,[0,5,7,14,16,17,18,21,22,24,25,26]),(7,[0,5,7,14,16,17,18,22,24,25,26]),(8,[0,4,5,7,14,16,17,18,22,24,25,26,27])],[(0,⟨List Int×Nat×List Wrt×Int,fun x=>[(0,⟨.box,[.c (sU (x.1)),.c (.n .i64 (x.2.1:Int))],[]⟩),(1,(k1 (.n .i64 n))),(5,(k1 (oWrts (x.2.2.1)))),(6,(k1 (.n .i64 (x.2.2.2)))),(7,(k1 .any))]⟩)],[(5,[(1000000,[])]),(7,[(1000000,[])]),(8,[(1000000,[])])],[],[]⟩) tab_ok mixed Tryz.func181 rfl Tryz.ntmps181 (rvs:=[.tmp 4]) Tryz.results181 rfl fun hl=>?_
 refine cast (show (∃ (b:y_6),((q_U l b.1/\zi p=zi b.2.1)/\i_6=b.2.2)/\rdB b.1 b.2.1 n_1/\(∃ (pre:y_9->Prop),∃ (μ:y_9->Nat),∃ (x0:y_9),((q_U b.1 x0.1/\(zi (b.2.1+n_1))=zi x0.2.1)/\n=n/\cnRs (raw [])=t_d x0.2.2.1/\pickB b.1 b.2.1 b.2.2=x0.2.2.2/\True)/\pre x0/\(∀ (x:y_9),let k_1:Prop:=(x.2.2.1.length+n_1)*n_48<=n_140737488355328;pre x->(decide (x.2.2.2>i_0)=true->∃ (b:y_6),((q_U x.1 b.1/\zi x.2.1=zi b.2.1)/\i_0=b.2.2)/\(rdB b.1 b.2.1 n_13/\b.2.2<i_1000000)/\k_1/\(∃ (y:y_9),((q_U b.1 y.1/\(zi (wrtD b.1 b.2.1 b.2.2).2)=zi y.2.1)/\n=n/\cnRs (appR (typ dWrt eWrtO x.2.2.1) (raw [[CV.s (wrtD b.1 b.2.1 b.2.2).1.key,CV.b (wrtD b.1 b.2.1 b.2.2).1.del,CV.ow n_3 (typ i_0 eI (wrtD b.1 b.2.1 b.2.2).1.val)]]))=t_d y.2.2.1/\wr_ (x.2.2.2-i_1)=y.2.2.2/\True)/\pre y/\μ y<μ x))/\(decide (x.2.2.2>i_0)=false->∃ (b:y_6),((q_U x.1 b.1/\zi x.2.1=zi b.2.1)/\n=b.2.2)/\(rdB b.1 b.2.1 n_1/\b.2.2<i_1000000)/\((oddB b.1 b.2.1 b.2.2).1=true->∃ (b_1:y_6),((q_U b.1 b_1.1/\(zi (oddB b.1 b.2.1 b.2.2).2)=zi b_1.2.1)/\i_2=b_1.2.2)/\(rdB b_1.1 b_1.2.1 n_13/\b_1.2.2<i_1000000)/\k_1/\cnRs (appR (typ dWrt eWrtO x.2.2.1) (raw [[CV.s (wrtD b_1.1 b_1.2.1 b_1.2.2).1.key,CV.b (wrtD b_1.1 b_1.2.1 b_1.2.2).1.del,CV.ow n_3 (typ i_0 eI (wrtD b_1.1 b_1.2.1 b_1.2.2).1.val)]]))=t_d (wrtsD l p n).1/\q_U b_1.1 l/\(zi (wrtD b_1.1 b_1.2.1 b_1.2.2).2)=(zi (wrtsD l p n).2))/\((oddB b.1 b.2.1 b.2.2).1=false->q_d x.2.2.1 (wrtsD l p n).1/\q_U b.1 l/\(zi (oddB b.1 b.2.1 b.2.2).2)=(zi (wrtsD l p n).2))))))=_ by kernel_rfl) ?_
 delta i_0 i_1 i_2 wr_ zi n_140737488355328 n_1 n_3 t_d q_d n_48 i_1000000 t_U q_U y_6 i_6 n_13 y_9
 have hp:=hpre.1
 have b1:=pick_lt (p:=p) (n:=6) (rdB_le hp (by omega):rdB l p 1) (by omega)
 simp only [zza,true_and,and_true,and_self,ne_eq,cI_app,cWrtO_app,cWrtS_app,cWrtO_1,cItemO_1,opr_ex,zcast,frz_nil,nil_map]
 refine ⟨rdB_le hp (by omega),fun x=>x.1=l/\0<=x.2.2.2/\wrtsR l x.2.2.2.toNat x.2.2.1 x.2.1=wrtsR l (pickB l p 6).toNat [] (p+1)/\(x.2.1:Int)+13*x.2.2.2<=p+66/\x.2.2.1.length+x.2.2.2.toNat<=5,⟨rfl,b1.1,rfl,by simp only;omega,by simp only [List.length_nil];omega⟩,fun x=>x.2.2.2.toNat,fun a q xs k hx=>?_⟩
 obtain ⟨rfl,h1,h2,h3,h4⟩:=hx
 simp only at h1 h2 h3 h4
 refine ⟨fun hk=>?_,fun hk=>?_⟩
 ·have e:IntKind.i64.wrap (k-1)=k-1:=IntWalk.i64_in _ (by omega)
  simp only [e,true_and]
  obtain ⟨m,rfl⟩:∃ m:Nat,k=(m:Int)+1:=⟨(k-1).toNat,by omega⟩
  have e2:((m:Int)+1).toNat=m+1:=by omega
  have e3:((m:Int)+1-1).toNat=m:=by omega
  rw [e2,wrtsR] at h2
  have hw:=wrt_le (l:=a) (p:=q) 0 (rdB_le hp (by omega))
  simp only [e3,e2]
  refine ⟨rdB_le hp (by omega),by omega,by omega,⟨by omega,h2,by omega,?_⟩,by omega⟩
  simp only [List.length_append,List.length_singleton];omega
 ·obtain rfl:k=0:=by omega
  simp only [Int.toNat_zero,wrtsR] at h2
  have hod:=odd_le a q n
  have hv:wrtsD a p n=if (oddB a q n).1=true then (xs++[(wrtD a (oddB a q n).2 2).1],(wrtD a (oddB a q n).2 2).2) else (xs,(oddB a q n).2):=by
   simp only [wrtsD,<- h2]
  rw [hv]
  simp only [Int.mul_zero,Int.add_zero,Int.toNat_zero,Nat.add_zero] at h3 h4
  refine ⟨rdB_le hp (by omega),hpre.2,fun ho=>⟨rdB_le hp (by omega),by omega,by omega,?_⟩,fun ho=>by simp [ho]⟩
  simp [ho]
def spec_l20Writes_c:Con Tryz.prog:=conP [.ptr,.lend] fun (b:List Int×Nat×Int) h=>spec_l20Writes_ok (b.1) (b.2.1) (b.2.2) h
theorem wrtsR_le {l:List Int}:∀ (k:Nat) (xs:List Wrt) (p:Nat),rdB l p (13*k+9)->(wrtsR l k xs p).2<=p+13*k/\(wrtsR l k xs p).1.length=xs.length+k
 | 0,xs,p,h=>⟨by simp [wrtsR],rfl⟩
 | k+1,xs,p,h=>by
  have h1:=wrt_le (l:=l) (p:=p) 0 (rdB_le h (by omega))
  have h2:=wrtsR_le k (xs++[(wrtD l p 0).1]) (wrtD l p 0).2 (rdB_le h (by omega))
  rw [wrtsR]
  refine ⟨by omega,?_⟩
  rw [h2.2];simp;omega
theorem wrts_le {l:List Int} {p:Nat} (n:Int) (h:rdB l p 80):(wrtsD l p n).2<=p+80/\(wrtsD l p n).1.length<=6:=by
 have b1:=pick_lt (p:=p) (n:=6) (rdB_le h (by omega):rdB l p 1) (by omega)
 have h1:=wrtsR_le (l:=l) (pickB l p 6).toNat [] (p+1) (rdB_le h (by omega))
 have h2:=odd_le l (wrtsR l (pickB l p 6).toNat [] (p+1)).2 n
 have h3:=wrt_le (l:=l) (p:=(oddB l (wrtsR l (pickB l p 6).toNat [] (p+1)).2 n).2) 2 (rdB_le h (by omega))
 have h4:=h1.2
 simp only [List.length_nil] at h4
 simp only [wrtsD]
 split
 ·refine ⟨by simp only;omega,?_⟩
  simp only [List.length_append,List.length_singleton];omega
 ·exact ⟨by simp only;omega,by simp only;omega⟩
theorem op_le {l:List Int} {p:Nat} (n:Int) (h:rdB l p 8):(opB l p n).2<=p+8:=by
 have hq:(op0 l p).2<=p+5:=by simp only [op0];split<;>(try split)<;>(try split)<;>simp<;>omega
 have:=odd_le l (op0 l p).2 n
 simp only [opB]
 split
 ·simp only [opBent];repeat' split
  all_goals simp only;omega
 ·simp only;omega
end Go.Proofs.AI
namespace Go.Proofs.AI
open Go.RowKit
set_option linter.unusedVariables false
set_option linter.unusedSimpArgs false
def plainIns:Nat->List CV->L
 | _,[]=>[]
 | j,y::r=>(j,⟨.one,[.c y],[]⟩)::plainIns (j+1) r
def valOfC:CV->Option Value
 | .b x=>some (.bool x)
 | .n k x=>some (.int k x)
 | .s x=>some (.string x)
 | _=>none
def valsOf:List CV->Option (List Value)
 | []=>some []
 | y::r=>match valOfC y,valsOf r with
  | some v,some l=>some (v::l)
  | _,_=>none
theorem valOfC_ok {P:Program} {w:World} {I:Nat->Prop} {y:CV} {v u:Value} {G:FP} (h:valOfC y=some v) (hr:Rep P w I y u G):u=v:=by
 cases y<;>simp [valOfC] at h<;>subst h<;>cases hr<;>rfl
theorem plainIns_at:∀ (l:List CV) (j0 j:Nat),mk (plainIns j0 l) j=if j<j0 then none else (l[j-j0]?).map fun y=>⟨.one,[.c y],[]⟩
 | [],j0,j=>by simp [plainIns,mk]
 | y::r,j0,j=>by
  simp only [plainIns,mk,up]
  by_cases h:j=j0
  ·subst h;simp
  ·simp only [h,if_false]
   rw [plainIns_at r (j0+1) j]
   by_cases h2:j<j0
   ·simp [h2,show j<j0+1 by omega]
   ·rw [if_neg h2,if_neg (by omega),show j-j0=(j-(j0+1))+1 by omega];simp
theorem valsOf_length:∀ {l:List CV} {vs:List Value},valsOf l=some vs->vs.length=l.length
 | [],vs,h=>by simp [valsOf] at h;subst h;rfl
 | y::r,vs,h=>by
  simp only [valsOf] at h
  split at h
  ·rename_i v l h1 h2
   injection h with h;subst h
   simp [valsOf_length h2]
  ·cases h
theorem valsOf_at:∀ {l:List CV} {vs:List Value},valsOf l=some vs->∀ (j:Nat) y,l[j]?=some y->∃ v,vs[j]?=some v/\valOfC y=some v
 | [],vs,h,j,y,hj=>by simp at hj
 | z::r,vs,h,j,y,hj=>by
  simp only [valsOf] at h
  split at h
  ·rename_i v l h1 h2
   injection h with h;subst h
   cases j with
   | zero=>simp at hj;subst hj;exact ⟨v,rfl,h1⟩
   | succ j=>simpa using valsOf_at h2 j y (by simpa using hj)
  ·cases h
theorem Fr.below {w w':World} (h:Below w.heap.size w w') (F:CP):Fr w w' F :=
 ⟨h.os,h.tape,h.output,h.size,fun b hb _=>h.block b hb,fun b cs e fr _ hb=>by
  refine ⟨cs,?_,fun _ _=>rfl⟩
  rw [h.block b]
  ·exact hb
  ·rcases Nat.lt_or_ge b w.heap.size with h1 | h1
   ·exact h1
   ·rw [Array.getElem?_eq_none h1] at hb;cases hb⟩
theorem FunOK.plain {P:Program} {f:FuncId} {fn:Func} {c:Code} {ys:List CV} {vs:List Value} {z:CV} {v:Value} (hf:P.funcs[f]?=some fn) (hb:fn.body=some c) (hn:(fn.name=="runtime.NumGoroutine")=false)
  (hv:valsOf ys=some vs) (hz:valOfC z=some v) (h:∀ w,Calls P f vs.toArray w fun e w'=>e=.returned v/\Below w.heap.size w w') :
  FunOK P f ys.length [] (plainIns 0 ys) (·=[(ys.length,⟨.one,[.c z],[]⟩)]):=by
 intro F0 I0 args w hs ⟨I,U,B,F,hr⟩
 have hargs:args=vs.toArray:=by
  refine Array.ext (by simp [hs,valsOf_length hv]) fun j h1 h2=>?_
  have hj:j<ys.length:=by omega
  obtain ⟨u,e1,e2⟩:=valsOf_at hv j _ (List.getElem?_eq_getElem hj)
  obtain ⟨_,hroot,⟨N,n1,_⟩,_⟩:=hr.key j ⟨.one,[.c ys[j]],[]⟩ (by rw [plainIns_at];simp [hj])
  have hrep:Rep P w I ys[j] (U j 0) (N 0):=n1 0 _ rfl
  have:=valOfC_ok e2 hrep
  have hroot:args.getD j undef=U j 0:=hroot.2.2
  have e3:vs[j]'(by simpa using h2)=u:=by
   have:=List.getElem?_eq_getElem (l:=vs) (i:=j) (by simpa using h2)
   rw [e1] at this;exact (Option.some.inj this).symm
  simp only [List.getElem_toArray,e3]
  rw [<- this,<- hroot,Array.getD_eq_getD_getElem?,Array.getElem?_eq_getElem h1]<;>rfl
 have hrun:(callFunc f args).run P w=.ok (.enter f args) w:=by
  have hn':fn.name≠"runtime.NumGoroutine":=by simpa using hn
  simp [callFunc,program,Sem.run,hf,hn',hb]
 unfold CallsTo
 rw [hrun]
 subst hargs
 refine Calls.mono (h w) fun e w' ⟨h1,h2⟩=>⟨v,h1,_,rfl,?_⟩
 have hzr:∀ (I:Nat->Prop) F,Rep P w' I z v F:=fun I F=>by
  cases z<;>simp [valOfC] at hz<;>subst hz<;>first | exact .b | exact .n | exact .s
 refine ⟨I,fun _ _=>v,fun _=>(0,0),fun _=>FP.none,⟨by simp [valsOf_length hv],rfl,fun t K hK=>?_,fun _ _ _ h=>h.elim,fun _ _ h=>h.elim,fun _ _ h=>h.elim,fun b hb=>?_,hr.ro0,hr.roN,Fr.below h2 _⟩⟩
 ·simp only [mk,up] at hK
  split at hK
  ·rename_i ht
   subst ht;cases hK
   refine ⟨by simp,⟨⟨fun _ _=>(hzr (fun _=>False) FP.none).one,rfl,?_⟩,⟨fun _=>FP.none,fun o x hx=>?_,fun _ _ _ h=>h.elim,fun _ _ h=>h.elim⟩,fun b hb=>by cases hb.1⟩⟩
   ·have hl:=valsOf_length hv
    simp [Array.getD_eq_getD_getElem?,hl]
   ·cases o with
    | zero=>simp at hx;subst hx;exact hzr _ _
    | succ o=>simp at hx
  ·cases hK
 ·exact Nat.lt_of_lt_of_le (hr.ro b hb) h2.size
end Go.Proofs.AI
namespace Go.Proofs.AI
open Go.RowKit Go.Proofs
set_option linter.unusedVariables false
set_option linter.unusedSimpArgs false
set_option maxRecDepth 100000
def digits:ByteArray:=⟨#[48,49,50,51,52,53,54,55,56,57]⟩
def trimD (s:ByteArray):ByteArray:=⟨(Lib.trimS s.data.toList digits.data.toList).toArray⟩
theorem trim_ok (s:ByteArray) (h:s.size<=1000):FunOK Tryz.prog 149 2 [] [(0,kS s),(1,kS digits)] (·=[(2,kS (trimD s))]):=by
 refine FunOK.plain (ys:=[.s s,.s digits]) (z:=.s (trimD s)) (fn:=Tryz.f149) Tryz.func149 rfl rfl rfl rfl fun w=>?_
 exact Any.strings_Trim_laid Tryz.lays160 (by kernel_rfl) s digits w (by omega) (by decide) (ascii_of_all (by decide))
def trim_c:Con Tryz.prog:=⟨149,2,[.lend,.lend],[],ByteArray,some fun s=>s.size<=1000,fun s=>[(0,kS s),(1,kS digits)],fun s=>[(2,kS (trimD s))],[],fun s h=>trim_ok s h⟩
theorem trim_nil (l cs:List UInt8):Lib.trimS l cs=[]↔∀ x∈l,cs.contains x=true:=by
 have h1:∀ (p:UInt8->Bool) (l:List UInt8),l.dropWhile p=[]↔∀ x∈l,p x=true:=fun p l=>by
  induction l with
  | nil=>simp
  | cons a l ih =>
   simp only [List.dropWhile_cons]
   split
   ·rename_i h;simp [ih,h]
   ·rename_i h;simp [h]
 simp only [Lib.trimS,Lib.trimLeftS,Lib.trimRightS]
 rw [h1]
 constructor
 ·intro h
  by_cases hn:l.reverse.dropWhile (cs.contains ·)=[]
  ·intro x hx;exact (h1 _ _).1 hn x (by simpa using hx)
  ·exfalso
   have:=List.head_dropWhile_not (p:=(cs.contains ·)) hn
   rw [h _ (by simp)] at this
   cases this
 ·intro h x hx
  exact h x (by have:=(List.dropWhile_sublist _).subset (List.mem_reverse.1 hx);simpa using this)
end Go.Proofs.AI
namespace Go.Proofs.AI
open Go.RowKit Go.Proofs
set_option linter.unusedVariables false
set_option linter.unusedSimpArgs false
set_option maxRecDepth 100000
theorem c0 (n:Nat):((n:Int)==0)=(n==0):=by rw [Bool.eq_iff_iff];simp<;>omega
theorem opr_ex' {o:Opr} {P:Opr->Prop}:(∃ x:Opr,(o.kind=x.kind/\o.who=x.who/\o.inn=x.inn/\o.code=x.code/\o.sec=x.sec/\o.fam=x.fam/\o.gen=x.gen)/\P x)↔P o :=
 ⟨fun ⟨x,⟨h1,h2,h3,h4,h5,h6,h7⟩,h⟩=>by cases o;cases x;simp_all,fun h=>⟨o,⟨rfl,rfl,rfl,rfl,rfl,rfl,rfl⟩,h⟩⟩
theorem wrap_byte (s:ByteArray) (k:Nat):IntKind.i64.wrap (byteAt s k)=byteAt s k:=by
 refine IntWalk.i64_in _ ?_
 unfold byteAt
 split
 ·have:=(s[k]).toNat_lt;omega
 ·omega
theorem trim_key (s:ByteArray) (hs:2<=s.size/\s.size<=3) (h:inR (byteAt s 0) 97 122=true):keyB s=((trimD (s.extract 1 s.size)).toList==(ByteArray.mk #[]).toList):=by
 have hin:inR s.size 2 3=true:=by simp [inR];omega
 have hd:∀ c:UInt8,digits.data.toList.contains c=true↔48<=c.toNat/\c.toNat<=57:=by
  intro c
  constructor
  ·intro h
   have h:c∈digits.data.toList:=by simpa using h
   simp only [digits,List.mem_cons,List.not_mem_nil,or_false] at h
   rcases h with rfl | rfl | rfl | rfl | rfl | rfl | rfl | rfl | rfl | rfl<;>decide
  ·intro ⟨h1,h2⟩
   have hc:c=UInt8.ofNat c.toNat:=by simp
   have:c.toNat=48∨c.toNat=49∨c.toNat=50∨c.toNat=51∨c.toNat=52∨c.toNat=53∨c.toNat=54∨c.toNat=55∨c.toNat=56∨c.toNat=57:=by omega
   rcases this with h | h | h | h | h | h | h | h | h | h<;>(rw [hc,h];decide)
 have e1:((trimD (s.extract 1 s.size)).toList==(ByteArray.mk #[]).toList)=decide (Lib.trimS (s.extract 1 s.size).data.toList digits.data.toList=[]):=by
  rw [ByteArray.toList_eq,ByteArray.toList_eq]
  rw [Bool.eq_iff_iff,beq_iff_eq,decide_eq_true_eq]
  simp only [trimD]
 rw [e1,keyB,hin,h]
 rw [Bool.true_and,Bool.true_and,Bool.eq_iff_iff]
 simp only [decide_eq_true_eq,List.all_eq_true,List.mem_range,trim_nil,hd]
 have hl:(s.extract 1 s.size).data.toList=s.data.toList.drop 1:=by
  obtain ⟨⟨l⟩⟩:=s
  rw [Lib.extract_mk]
  exact List.take_of_length_le (by rw [List.length_drop,Lib.size_mk];omega)
 have hl':(s.extract 1 s.size).data.toList=s.data.toList.drop 1:=hl
 rw [hl']
 have hsz:s.data.toList.length=s.size:=(Lib.size_eq s).symm
 have hdig:∀ i (h:i<s.size),dig s i=true↔48<=(s[i]).toNat/\(s[i]).toNat<=57:=fun i h=>by
  unfold dig byteAt
  rw [dif_pos h]
  simp [inR];omega
 have he:∀ j (h:j+1<s.size) (h':j<(s.data.toList.drop 1).length),(s.data.toList.drop 1)[j]=s[j+1]:=fun j h h'=>by
  rw [List.getElem_drop];simp only [Nat.add_comm];rfl
 constructor
 ·intro hk x hx
  obtain ⟨j,hj,rfl⟩:=List.getElem_of_mem hx
  have hj2:j+1<s.size:=by have:=hj;rw [List.length_drop,hsz] at this;omega
  have:=hk (j+1) hj2
  rw [Bool.or_eq_true] at this
  rcases this with h | h
  ·simp at h
  ·rw [he j hj2 hj];exact (hdig _ hj2).1 h
 ·intro hk i hi
  cases i with
  | zero=>rfl
  | succ j =>
   rw [Bool.or_eq_true]
   right
   have hj:j<(s.data.toList.drop 1).length:=by rw [List.length_drop,hsz];omega
   exact (hdig _ hi).2 (hk _ (by rw [<- he j hi hj];exact List.getElem_mem _))
theorem impl_in_ok (x:Int) (y:Int) (z:Int):FunOK Tryz.prog 87 3 [] [(0,kI x),(1,kI y),(2,kI z)] (·=[(3,kB (inR x y z))]):=by
 refine fun_to (E:=⟨tab,ctOf [],15,[],[(0,[0,1,2]),(1,[6])],[],[],[],[]⟩) tab_ok mixed Tryz.func87 rfl Tryz.ntmps87 (rvs:=[.tmp 6]) Tryz.results87 rfl fun hl=>?_
 refine cast (show ((decide (x≥y)=true->decide (x<=z)=inR x y z)/\(decide (x≥y)=false->false=inR x y z))=_ by kernel_rfl) ?_
 simp only [inR]
 repeat' (first | apply And.intro | intro)
 all_goals (simp_all)
 all_goals omega
def impl_in_c:Con Tryz.prog:=con0 [.lend,.lend,.lend] fun b:Int×Int×Int=>impl_in_ok (b.1) (b.2.1) (b.2.2)
theorem impl_OpOk_1_ok (x:Int):FunOK Tryz.prog 106 1 [] [(0,kI x)] (·=[(1,kB (inR x 0 9))]):=by
 refine fun_to (E:=⟨tab,ctOf [impl_in_c],5,[],[(0,[0]),(1,[2])],[],[],[],[]⟩) tab_ok mixed Tryz.func106 rfl Tryz.ntmps106 (rvs:=[.tmp 2]) Tryz.results106 rfl fun hl=>?_
 refine cast (show (∃ (b:Int×Int×Int),(x=b.1/\i_0=b.2.1/\i_9=b.2.2)/\inR b.1 b.2.1 b.2.2=inR x i_0 i_9)=_ by kernel_rfl) ?_
 delta i_0 i_9
 simp only [Prod.exists,and_assoc,exists_eq_left',exists_and_left]
def impl_OpOk_1_c:Con Tryz.prog:=con0 [.lend] fun b:Int=>impl_OpOk_1_ok b
theorem impl_OpOk_2_ok (x:Int):FunOK Tryz.prog 107 1 [] [(0,kI x)] (·=[(1,kB (inR x 0 99))]):=by
 refine fun_to (E:=⟨tab,ctOf [impl_in_c],5,[],[(0,[0]),(1,[2])],[],[],[],[]⟩) tab_ok mixed Tryz.func107 rfl Tryz.ntmps107 (rvs:=[.tmp 2]) Tryz.results107 rfl fun hl=>?_
 refine cast (show (∃ (b:Int×Int×Int),(x=b.1/\i_0=b.2.1/\i_99=b.2.2)/\inR b.1 b.2.1 b.2.2=inR x i_0 i_99)=_ by kernel_rfl) ?_
 delta i_0 i_99
 simp only [Prod.exists,and_assoc,exists_eq_left',exists_and_left]
def impl_OpOk_2_c:Con Tryz.prog:=con0 [.lend] fun b:Int=>impl_OpOk_2_ok b
theorem impl_OpOk_ok (o:Opr):FunOK Tryz.prog 60 1 [] [(0,kOp o)] (·=[(1,kB (opOk o))]):=by
 refine fun_to (E:=⟨tab,ctOf [impl_OpOk_1_c,impl_OpOk_2_c],98,[],[(0,[1]),(1,[1,3]),(2,[1,3,4]),(3,[1,44]),(4,[2]),(5,[1,46]),(6,[1,46,47]),(7,[1,46,47]),(8,[2]),(9,[1,46,59]),(10,[2]),(11,[1,46,74]),(12,[2]),(13,[1,87]),(14,[2]),(15,[2])],[],[],[],[]⟩) tab_ok mixed Tryz.func60 rfl Tryz.ntmps60 (rvs:=[.tmp 2]) Tryz.results60 rfl fun hl=>?_
 refine cast (show (let k_1:Prop:=(if false=true then !(o.kind==o.kind&&(o.who==o.who&&(o.inn==o.inn&&(o.code==i_0&&(o.sec==i_0&&(o.fam==i_0&&o.gen==i_0)))))) else o.kind==o.kind&&(o.who==o.who&&(o.inn==o.inn&&(o.code==i_0&&(o.sec==i_0&&(o.fam==i_0&&o.gen==i_0))))))=opOk o;∃ (b:Int),o.who=b/\((!inR b i_0 i_9)=false->∃ (b:Int),o.inn=b/\((!inR b i_0 i_9)=false->∃ (b:Int),o.code=b/\((!inR b i_0 i_9)=false->∃ (b:Int),o.fam=b/\((!inR b i_0 i_9)=false->∃ (b:Int),o.sec=b/\((!inR b i_0 i_99)=false->∃ (b:Int),o.gen=b/\((!inR b i_0 i_99)=true->false=opOk o)/\((!inR b i_0 i_99)=false->((o.kind==i_1)=true->k_1)/\((o.kind==i_1)=false->((o.kind==i_5)=true->k_1)/\((o.kind==i_5)=false->((o.kind==i_2)=true->(if false=true then !(o.kind==o.kind&&(o.who==o.who&&(o.inn==o.inn&&(o.code==o.code&&(o.sec==o.sec&&(o.fam==i_0&&o.gen==i_0)))))) else o.kind==o.kind&&(o.who==o.who&&(o.inn==o.inn&&(o.code==o.code&&(o.sec==o.sec&&(o.fam==i_0&&o.gen==i_0))))))=opOk o)/\((o.kind==i_2)=false->((o.kind==i_3)=true->(if false=true then !(o.kind==o.kind&&(o.who==i_0&&(o.inn==i_0&&(o.code==o.code&&(o.sec==o.sec&&(o.fam==o.fam&&o.gen==i_0)))))) else o.kind==o.kind&&(o.who==i_0&&(o.inn==i_0&&(o.code==o.code&&(o.sec==o.sec&&(o.fam==o.fam&&o.gen==i_0))))))=opOk o)/\((o.kind==i_3)=false->((o.kind==i_4)=true->(if false=true then !(o.kind==o.kind&&(o.who==i_0&&(o.inn==i_0&&(o.code==i_0&&(o.sec==i_0&&(o.fam==o.fam&&o.gen==o.gen)))))) else o.kind==o.kind&&(o.who==i_0&&(o.inn==i_0&&(o.code==i_0&&(o.sec==i_0&&(o.fam==o.fam&&o.gen==o.gen))))))=opOk o)/\((o.kind==i_4)=false->false=opOk o)))))))/\((!inR b i_0 i_99)=true->false=opOk o))/\((!inR b i_0 i_9)=true->false=opOk o))/\((!inR b i_0 i_9)=true->false=opOk o))/\((!inR b i_0 i_9)=true->false=opOk o))/\((!inR b i_0 i_9)=true->false=opOk o))=_ by kernel_rfl) ?_
 delta i_0 i_9 i_99 i_1 i_5 i_2 i_3 i_4
 simp only [exists_eq_left']
 repeat' (first | apply And.intro | intro)
 all_goals (simp_all [opOk,Bool.and_assoc])
def impl_OpOk_c:Con Tryz.prog:=con0 [.lend] fun b:Opr=>impl_OpOk_ok b
theorem impl_OpPlaces_ok (o:Opr):FunOK Tryz.prog 27 1 [] [(0,kOp o)] (·=[(1,k1 (oI (placesL o)))]):=by
 refine fun_to (E:=⟨tab,ctOf [impl_OpOk_c],23,[],[(0,[1,11,21,22]),(1,[1,3,11,21,22]),(2,[2,11,21,22]),(3,[1,7,11,21,22]),(4,[2,11,21,22]),(5,[11,12,21,22]),(6,[2,11,21,22]),(7,[2,11,21,22])],[],[],[],[]⟩) tab_ok mixed Tryz.func27 rfl Tryz.ntmps27 (rvs:=[.tmp 2]) Tryz.results27 rfl fun hl=>?_
 refine cast (show (let k_1:Prop:=cnRs (typ i_0 (fun (y:Int)=>[cn_ y]) [i_1,i_2,i_3])=t_I (placesL o);∃ (b:Opr),(o.kind=b.kind/\o.who=b.who/\o.inn=b.inn/\o.code=b.code/\o.sec=b.sec/\o.fam=b.fam/\o.gen=b.gen)/\((!opOk b)=true->(placesL o).length=n_0)/\((!opOk b)=false->((o.kind==i_1)=true->cnRs (typ i_0 (fun (y:Int)=>[cn_ y]) [i_1,i_3])=t_I (placesL o))/\((o.kind==i_1)=false->((o.kind==i_2)=false->((o.kind==i_5)=true->k_1)/\((o.kind==i_5)=false->cnRs (typ i_0 (fun (y:Int)=>[cn_ y]) [i_2,i_3])=t_I (placesL o)))/\((o.kind==i_2)=true->k_1))))=_ by kernel_rfl) ?_
 delta i_0 i_1 i_5 i_2 i_3 t_I n_0 cn_
 simp only [opr_ex',placesL]
 repeat' (first | apply And.intro | intro)
 all_goals (simp_all)
def impl_OpPlaces_c:Con Tryz.prog:=con0 [.lend] fun b:Opr=>impl_OpPlaces_ok b
theorem impl_keyOk_ok (s:ByteArray):FunOK Tryz.prog 110 1 [] [(0,kS s)] (·=[(1,kB (keyB s))]):=by
 refine fun_to (E:=⟨tab,ctOf [trim_c,impl_in_c],18,[],[(0,[0]),(1,[2])],[],[],[],[]⟩) tab_ok mixed Tryz.func110 rfl Tryz.ntmps110 (rvs:=[.tmp 2]) Tryz.results110 rfl fun hl=>?_
 refine cast (show (∃ (b:Int×Int×Int),(zi s.size=b.1/\i_2=b.2.1/\i_3=b.2.2)/\(inR b.1 b.2.1 b.2.2=true->(i_0<=i_0/\i_0<zi s.size)/\∃ (b:Int×Int×Int),(wr_ (byteAt s (Int.toNat i_0))=b.1/\i_97=b.2.1/\i_122=b.2.2)/\(inR b.1 b.2.1 b.2.2=true->(i_0<=(some i_1).getD i_0/\(some i_1).getD i_0<=none.getD (zi s.size)/\none.getD (zi s.size)<=zi s.size)/\∃ (b:ByteArray),(s.extract ((some i_1).getD i_0).toNat (none.getD (zi s.size)).toNat=b/\(ByteArray.mk #[(48:UInt8),(49:UInt8),(50:UInt8),(51:UInt8),(52:UInt8),(53:UInt8),(54:UInt8),(55:UInt8),(56:UInt8),(57:UInt8)])=digits)/\b.size<=n_1000/\((trimD b).toList==(ByteArray.mk #[]).toList)=keyB s)/\(inR b.1 b.2.1 b.2.2=false->false=keyB s))/\(inR b.1 b.2.1 b.2.2=false->false=keyB s))=_ by kernel_rfl) ?_
 delta i_0 i_1 i_2 i_3 wr_ zi i_97 i_122 n_1000
 simp only [Prod.exists,and_assoc,exists_eq_left',exists_and_left]
 refine ⟨fun h=>⟨by omega,by simp [inR] at h;omega,fun h2=>?_,fun h2=>?_⟩,fun h=>by simp [keyB,h]⟩
 ·have hs:2<=s.size/\s.size<=3:=by simp [inR] at h;omega
  refine ⟨by simp,by simp;omega,by simp,rfl,by simp;omega,?_⟩
  rw [wrap_byte] at h2
  exact (trim_key s hs h2).symm
 ·rw [wrap_byte] at h2
  simp [keyB] at h2 ⊢;simp [h2]
def impl_keyOk_c:Con Tryz.prog:=con0 [.lend] fun b:ByteArray=>impl_keyOk_ok b
theorem impl_valOk_1_ok (x:Int):FunOK Tryz.prog 150 1 [] [(0,kI x)] (·=[(1,kB (!inR x 0 9999))]):=by
 refine fun_to (E:=⟨tab,ctOf [impl_in_c],6,[],[(0,[0]),(1,[2])],[],[],[],[]⟩) tab_ok mixed Tryz.func150 rfl Tryz.ntmps150 (rvs:=[.tmp 2]) Tryz.results150 rfl fun hl=>?_
 refine cast (show (∃ (b:Int×Int×Int),(x=b.1/\i_0=b.2.1/\i_9999=b.2.2)/\(!inR b.1 b.2.1 b.2.2)=!inR x i_0 i_9999)=_ by kernel_rfl) ?_
 delta i_0 i_9999
 simp only [Prod.exists,and_assoc,exists_eq_left',exists_and_left]
def impl_valOk_1_c:Con Tryz.prog:=con0 [.lend] fun b:Int=>impl_valOk_1_ok b
def idxOf {α:Type} (p:α->Bool) (xs:List α):Int:=if xs.any p then (xs.findIdx p:Int) else -1
theorem idx_hit {α:Type} {p:α->Bool} {xs:List α} {d:α} {i:Nat} (hi:i<xs.length) (hp:p (xs.getD i d)=true) (h:∀ j,j<i->p (xs.getD j d)=false):idxOf p xs=i:=by
 have h1:xs.any p=true:=any_hit hi hp
 have h2:xs.findIdx p=i:=by
  rw [List.findIdx_eq hi]
  rw [getD_lt hi] at hp
  refine ⟨hp,fun j hj=>?_⟩
  have:=h j hj
  rw [getD_lt (by omega)] at this
  simpa using this
 simp [idxOf,h1,h2]
theorem idx_miss {α:Type} {p:α->Bool} {xs:List α} {d:α} (h:∀ j,j<xs.length->p (xs.getD j d)=false):idxOf p xs=-1:=by
 simp [idxOf,any_miss h]
theorem idx_ge {α:Type} (p:α->Bool) (xs:List α):decide (idxOf p xs≥0)=xs.any p:=by
 unfold idxOf
 cases xs.any p<;>simp
abbrev kF (f:FuncId):Ky:=k1 (.vl (.func (.func f) ⟨[]⟩ ⟨[]⟩))
theorem IndexVal_ok (xs:List Int):FunOK Tryz.prog 170 2 [] [(0,k1 (sI xs)),(1,kF 150)] (·=[(2,kI (idxOf (fun x=>!inR x 0 9999) xs))]):=by
 refine fun_to (E:=⟨tab,ctOf [impl_valOk_1_c],19,[],[(0,[0,1]),(1,[0,1,7,8]),(2,[0,1,7,8,9]),(3,[0,1,5,7,8]),(4,[0,1,5,7,8,16]),(5,[4]),(6,[0,1,7,8]),(7,[4])],[(0,⟨Nat,fun x=>[(0,(k1 (.sh 3 (typ (0:Int) eI xs)))),(1,(k1 (.vl (Value.func (Fn.func (150:FuncId)) { toList:=[] } { toList:=[] })))),(7,(k1 (.n .i64 ((↑xs.length:Int))))),(8,(k1 (.n .i64 (x:Int))))]⟩)],[],[],[]⟩) tab_ok mixed Tryz.func170 rfl Tryz.ntmps170 (rvs:=[.tmp 4]) Tryz.results170 rfl fun hl=>?_
 refine cast (show (let k_1:Prop:=Value.func (Fn.func (150:FuncId)) { toList:=[] } { toList:=[] }=Value.func (Fn.func (150:FuncId)) { toList:=[] } { toList:=[] };∃ (pre:Nat->Prop),∃ (μ:Nat->Nat),∃ (x0:Nat),(q_I xs xs/\k_1/\zi xs.length=zi xs.length/\i_0=zi x0)/\pre x0/\(∀ (x:Nat),pre x->(decide (zi x<zi xs.length)=true->(i_0<=zi x/\zi x<zi xs.length)/\(∃ (b:Int),g_Int xs x=b/\((!inR b i_0 i_9999)=true->zi x=idxOf (fun (x:Int)=>!inR x i_0 i_9999) xs)/\((!inR b i_0 i_9999)=false->∃ (y:Nat),(q_I xs xs/\k_1/\zi xs.length=zi xs.length/\wr_ ((zi x)+i_1)=zi y)/\pre y/\μ y<μ x)))/\(decide (zi x<zi xs.length)=false->(-1:Int)=idxOf (fun (x:Int)=>!inR x i_0 i_9999) xs)))=_ by kernel_rfl) ?_
 delta i_0 i_1 wr_ g_Int zi t_I q_I i_9999
 have hx:xs.length<=9223372036854775807:=hl.1 _ (List.mem_singleton.2 rfl)
 simp only [zza,true_and,and_true,and_self,ne_eq,cI_app,cWrtO_app,cWrtS_app,cWrtO_1,cItemO_1,opr_ex,zcast,frz_nil,nil_map]
 refine ⟨fun i=>i<=xs.length/\∀ j,j<i->(!inR (xs.getD j 0) 0 9999)=false,⟨by simp,fun j hj=>absurd hj (Nat.not_lt_zero _)⟩,fun i=>xs.length-i,fun i hi=>?_⟩
 obtain ⟨h1,h2⟩:=hi
 refine ⟨fun hlt=>⟨by omega,by omega,fun hp=>?_,fun hp=>⟨i+1,wrapN (by omega),⟨by omega,below_succ h2 hp⟩,by simp only;omega⟩⟩,fun hge=>?_⟩
 ·exact (idx_hit (p:=fun x=>!inR x 0 9999) (by omega) hp h2).symm
 ·exact (idx_miss (p:=fun x=>!inR x 0 9999) (d:=0) fun j hj=>h2 j (by omega)).symm
def IndexVal_c:Con Tryz.prog:=con0 [.lend,.lend] fun b:List Int=>IndexVal_ok b
theorem ContainsVal_ok (xs:List Int):FunOK Tryz.prog 132 2 [] [(0,k1 (sI xs)),(1,kF 150)] (·=[(2,kB (xs.any fun x=>!inR x 0 9999))]):=by
 refine fun_to (E:=⟨tab,ctOf [IndexVal_c],9,[],[(0,[0,1]),(1,[4])],[],[],[],[]⟩) tab_ok mixed Tryz.func132 rfl Tryz.ntmps132 (rvs:=[.tmp 4]) Tryz.results132 rfl fun hl=>?_
 refine cast (show (∃ (b:List Int),(q_I xs b/\Value.func (Fn.func (150:FuncId)) { toList:=[] } { toList:=[] }=Value.func (Fn.func (150:FuncId)) { toList:=[] } { toList:=[] })/\decide (idxOf (fun (x:Int)=>!inR x i_0 i_9999) b≥i_0)=xs.any fun (x:Int)=>!inR x i_0 i_9999)=_ by kernel_rfl) ?_
 delta i_0 t_I q_I i_9999
 simp only [zza,true_and,and_true,and_self,ne_eq,cI_app,cWrtO_app,cWrtS_app,cWrtO_1,cItemO_1,opr_ex,zcast,frz_nil,nil_map]
 exact idx_ge _ _
def ContainsVal_c:Con Tryz.prog:=con0 [.lend,.lend] fun b:List Int=>ContainsVal_ok b
theorem impl_valOk_ok (xs:List Int):FunOK Tryz.prog 111 1 [] [(0,k1 (sI xs))] (·=[(1,kB (valB xs))]):=by
 refine fun_to (E:=⟨tab,ctOf [impl_in_c,ContainsVal_c],11,[],[(0,[0]),(1,[2])],[],[],[],[]⟩) tab_ok mixed Tryz.func111 rfl Tryz.ntmps111 (rvs:=[.tmp 2]) Tryz.results111 rfl fun hl=>?_
 refine cast (show (∃ (b:Int×Int×Int),(zi xs.length=b.1/\i_1=b.2.1/\i_3=b.2.2)/\(inR b.1 b.2.1 b.2.2=true->∃ (b:List Int),(q_I xs b/\Value.func (Fn.func n_150) #[] #[]=Value.func (Fn.func (150:FuncId)) { toList:=[] } { toList:=[] })/\(!b.any fun (x:Int)=>!inR x i_0 i_9999)=valB xs)/\(inR b.1 b.2.1 b.2.2=false->false=valB xs))=_ by kernel_rfl) ?_
 delta i_0 i_1 i_3 zi t_I q_I i_9999 n_150
 simp only [zza,true_and,and_true,and_self,ne_eq,cI_app,cWrtO_app,cWrtS_app,cWrtO_1,cItemO_1,opr_ex,zcast,frz_nil,nil_map]
 refine ⟨fun h=>?_,fun h=>by simp [valB,h]⟩
 simp [valB,h,List.all_eq_not_any_not]
def impl_valOk_c:Con Tryz.prog:=con0 [.lend] fun b:List Int=>impl_valOk_ok b
theorem impl_isService_ok (p:Int):FunOK Tryz.prog 88 1 [] [(0,kI p)] (·=[(1,kB (inR p 1 3))]):=by
 refine fun_to (E:=⟨tab,ctOf [impl_in_c],5,[],[(0,[0]),(1,[2])],[],[],[],[]⟩) tab_ok mixed Tryz.func88 rfl Tryz.ntmps88 (rvs:=[.tmp 2]) Tryz.results88 rfl fun hl=>?_
 refine cast (show (∃ (b:Int×Int×Int),(p=b.1/\i_1=b.2.1/\i_3=b.2.2)/\inR b.1 b.2.1 b.2.2=inR p i_1 i_3)=_ by kernel_rfl) ?_
 delta i_1 i_3
 simp only [Prod.exists,and_assoc,exists_eq_left',exists_and_left]
def impl_isService_c:Con Tryz.prog:=con0 [.lend] fun b:Int=>impl_isService_ok b
theorem impl_isTx_ok (n:Int):FunOK Tryz.prog 61 1 [] [(0,kI n)] (·=[(1,kB (inR n 0 29))]):=by
 refine fun_to (E:=⟨tab,ctOf [impl_in_c],5,[],[(0,[0]),(1,[2])],[],[],[],[]⟩) tab_ok mixed Tryz.func61 rfl Tryz.ntmps61 (rvs:=[.tmp 2]) Tryz.results61 rfl fun hl=>?_
 refine cast (show (∃ (b:Int×Int×Int),(n=b.1/\i_0=b.2.1/\i_29=b.2.2)/\inR b.1 b.2.1 b.2.2=inR n i_0 i_29)=_ by kernel_rfl) ?_
 delta i_0 i_29
 simp only [Prod.exists,and_assoc,exists_eq_left',exists_and_left]
def impl_isTx_c:Con Tryz.prog:=con0 [.lend] fun b:Int=>impl_isTx_ok b
theorem impl_WrtOk_ok (w:Wrt):FunOK Tryz.prog 66 1 [] [(0,kWrt w)] (·=[(1,kB (wrtB w))]):=by
 refine fun_to (E:=⟨tab,ctOf [impl_keyOk_c,impl_valOk_c],22,[],[(0,[1]),(1,[1,4]),(2,[2]),(3,[2])],[],[],[],[]⟩) tab_ok mixed Tryz.func66 rfl Tryz.ntmps66 (rvs:=[.tmp 2]) Tryz.results66 rfl fun hl=>?_
 refine cast (show ((w.del=true->∃ (b:ByteArray),w.key=b/\(keyB b=true->(zi w.val.length==i_0)=wrtB w)/\(keyB b=false->false=wrtB w))/\(w.del=false->∃ (b:ByteArray),w.key=b/\(keyB b=true->∃ (b:List Int),q_I w.val b/\valB b=wrtB w)/\(keyB b=false->false=wrtB w)))=_ by kernel_rfl) ?_
 delta i_0 zi t_I q_I
 simp only [zza,true_and,and_true,and_self,ne_eq,cI_app,cWrtO_app,cWrtS_app,cWrtO_1,cItemO_1,opr_ex,zcast,frz_nil,nil_map]
 repeat' (first | with_reducible apply And.intro | with_reducible intro _)
 all_goals simp_all [wrtB,c0]
def impl_WrtOk_c:Con Tryz.prog:=con0 [.lend] fun b:Wrt=>impl_WrtOk_ok b
end Go.Proofs.AI
namespace Go.Proofs.AI
open Go.RowKit Go.Proofs
set_option linter.unusedVariables false
set_option linter.unusedSimpArgs false
set_option maxRecDepth 100000
theorem slices_Clone_int_ok (vs:List Int) (hpre:0<vs.length/\vs.length<=1000):FunOK Tryz.prog 90 1 [] [(0,k1 (sI vs))] (·=[(1,k1 (oI vs))]):=by
 refine fun_to (E:=⟨tab,ctOf [],8,[],[(0,[0,5,6,7]),(1,[0,4,5,6,7]),(2,[0,2,5,6,7]),(3,[0,2,5,6,7])],[],[],[],[]⟩) tab_ok mixed Tryz.func90 rfl Tryz.ntmps90 (rvs:=[.tmp 2]) Tryz.results90 rfl fun hl=>?_
 refine cast (show (n_0<vs.length/\((if false=true then true else false)=true->vs.length=n_0)/\((if false=true then true else false)=false->(n_0+vs.length)*n_8<=n_140737488355328/\cnRs (appR (raw []) (typ i_0 eI vs))=t_I vs))=_ by kernel_rfl) ?_
 delta i_0 t_I n_0 n_8 n_140737488355328
 simp only [zza,true_and,and_true,and_self,ne_eq,cI_app,cWrtO_app,cWrtS_app,cWrtO_1,cItemO_1,opr_ex,zcast,frz_nil,nil_map]
 refine ⟨hpre.1,fun h=>by simp at h,fun _=>⟨by omega,?_⟩⟩
 simp [cI]
theorem eqB_iff' {a b:ByteArray}:eqB a b=true↔a=b:=by
 simp only [eqB,beq_iff_eq,ByteArray.toList_eq,Array.toList_inj]
 exact ⟨fun h=>ByteArray.ext h,fun h=>by rw [h]⟩
theorem half_eq {a b:Nat} (h1:a<=b) (h2:b<=1000):IntKind.i64.wrap ((IntKind.u64.wrap (IntKind.i64.wrap ((a:Int)+(b:Int)))).fdiv (2 ^ min (Int.toNat 1) IntKind.u64.bits))=(((a+b) / 2:Nat):Int):=by
 rw [show IntKind.i64.wrap ((a:Int)+(b:Int))=(a:Int)+(b:Int) from IntWalk.i64_in _ (by omega),IntKind.wrap_u64,show min (Int.toNat 1) IntKind.u64.bits=1 from rfl,Int.fdiv_eq_ediv_of_nonneg _ (by decide),IntWalk.i64_in _ (by omega)]
 omega
theorem IndexInt_ok (xs:List Int) (z:Int):FunOK Tryz.prog 171 2 [] [(0,k1 (sI xs)),(1,kI z)] (·=[(2,kI (idxOf (fun x=>z==x) xs))]):=by
 refine fun_to (E:=⟨tab,ctOf [],19,[],[(0,[0,1]),(1,[0,1,7,8]),(2,[0,1,7,8,9]),(3,[0,1,5,7,8]),(4,[0,1,5,7,8,16]),(5,[4]),(6,[0,1,7,8]),(7,[4])],[(0,⟨Nat,fun x=>[(0,(k1 (.sh 3 (typ (0:Int) eI xs)))),(1,(k1 (.n .i64 z))),(7,(k1 (.n .i64 ((↑xs.length:Int))))),(8,(k1 (.n .i64 (x:Int))))]⟩)],[],[],[]⟩) tab_ok mixed Tryz.func171 rfl Tryz.ntmps171 (rvs:=[.tmp 4]) Tryz.results171 rfl fun hl=>?_
 refine cast (show (∃ (pre:Nat->Prop),∃ (μ:Nat->Nat),∃ (x0:Nat),(q_I xs xs/\z=z/\zi xs.length=zi xs.length/\i_0=zi x0)/\pre x0/\∀ (x:Nat),pre x->(decide (zi x<zi xs.length)=true->(i_0<=zi x/\zi x<zi xs.length)/\((z==g_Int xs x)=true->zi x=idxOf (fun (x:Int)=>z==x) xs)/\((z==g_Int xs x)=false->∃ (y:Nat),(q_I xs xs/\z=z/\zi xs.length=zi xs.length/\wr_ ((zi x)+i_1)=zi y)/\pre y/\μ y<μ x))/\(decide (zi x<zi xs.length)=false->(-1:Int)=idxOf (fun (x:Int)=>z==x) xs))=_ by kernel_rfl) ?_
 delta i_0 i_1 wr_ g_Int zi t_I q_I
 have hx:xs.length<=9223372036854775807:=hl.1 _ (List.mem_singleton.2 rfl)
 simp only [zza,true_and,and_true,and_self,ne_eq,cI_app,cWrtO_app,cWrtS_app,cWrtO_1,cItemO_1,opr_ex,zcast,frz_nil,nil_map]
 refine ⟨fun i=>i<=xs.length/\∀ j,j<i->(z==(xs.getD j 0))=false,⟨by simp,fun j hj=>absurd hj (Nat.not_lt_zero _)⟩,fun i=>xs.length-i,fun i hi=>?_⟩
 obtain ⟨h1,h2⟩:=hi
 refine ⟨fun hlt=>⟨by omega,by omega,fun hp=>?_,fun hp=>⟨i+1,wrapN (by omega),⟨by omega,below_succ h2 (by simpa using hp)⟩,by simp only;omega⟩⟩,fun hge=>?_⟩
 ·exact (idx_hit (p:=fun x=>z==x) (d:=0) (by omega) (by simpa using hp) h2).symm
 ·exact (idx_miss (p:=fun x=>z==x) (d:=0) fun j hj=>h2 j (by omega)).symm
def IndexInt_c:Con Tryz.prog:=con0 [.lend,.lend] fun b:List Int×Int=>IndexInt_ok (b.1) (b.2)
theorem ContainsInt_ok (xs:List Int) (z:Int):FunOK Tryz.prog 134 2 [] [(0,k1 (sI xs)),(1,kI z)] (·=[(2,kB (xs.any fun x=>z==x))]):=by
 refine fun_to (E:=⟨tab,ctOf [IndexInt_c],9,[],[(0,[0,1]),(1,[4])],[],[],[],[]⟩) tab_ok mixed Tryz.func134 rfl Tryz.ntmps134 (rvs:=[.tmp 4]) Tryz.results134 rfl fun hl=>?_
 refine cast (show (∃ (b:List Int×Int),(q_I xs b.1/\z=b.2)/\decide (idxOf (fun (x:Int)=>b.2==x) b.1≥i_0)=xs.any fun (x:Int)=>z==x)=_ by kernel_rfl) ?_
 delta i_0 t_I q_I
 simp only [zza,true_and,and_true,and_self,ne_eq,cI_app,cWrtO_app,cWrtS_app,cWrtO_1,cItemO_1,opr_ex,zcast,frz_nil,nil_map]
 exact idx_ge _ _
def ContainsInt_c:Con Tryz.prog:=con0 [.lend,.lend] fun b:List Int×Int=>ContainsInt_ok (b.1) (b.2)
end Go.Proofs.AI
namespace Go.Proofs.AI
open Go.RowKit Go.Proofs
set_option linter.unusedVariables false
set_option linter.unusedSimpArgs false
set_option maxRecDepth 100000
theorem i1:(if (True:Prop) then true else false)=true:=rfl
theorem i2:(if (True:Prop) then false else true)=false:=rfl
theorem i3:(if (false=true) then true else false)=false:=rfl
theorem i4:(if (false=true) then false else true)=true:=rfl
end Go.Proofs.AI
namespace Go.Proofs.AI
open Go.RowKit
set_option linter.unusedVariables false
set_option linter.unusedSimpArgs false
structure Oth (w w':World) (g:Nat):Prop where
 os:w'.os=w.os
 tape:w'.tape=w.tape
 output:w'.output=w.output
 size:w.heap.size<=w'.heap.size
 block:∀ b,b<w.heap.size->b≠g->w'.heap[b]?=w.heap[b]?
theorem Oth.refl (w:World) (g:Nat):Oth w w g:=⟨rfl,rfl,rfl,Nat.le_refl _,fun _ _ _=>rfl⟩
theorem Oth.drew (w:World) (g:Nat):Oth w w.drew g:=⟨rfl,rfl,rfl,Nat.le_refl _,fun _ _ _=>rfl⟩
theorem Oth.trans {w w1 w2:World} {g:Nat} (h:Oth w w1 g) (k:Oth w1 w2 g):Oth w w2 g :=
 ⟨k.os.trans h.os,k.tape.trans h.tape,k.output.trans h.output,Nat.le_trans h.size k.size,fun b hb hn=>(k.block b (Nat.lt_of_lt_of_le hb h.size) hn).trans (h.block b hb hn)⟩
theorem oth_setCells (g:Nat):∀ (vs:List Value) (o:Nat) (w:World),Oth w (w.setCells g o vs) g
 | [],o,w=>Oth.refl _ _
 | v::r,o,w=>by
  rw [World.setCells]
  refine Oth.trans ?_ (oth_setCells g r (o+1) _)
  refine ⟨rfl,rfl,rfl,by simp [World.setCell],fun b hb hn=>heap_far w g o v hn⟩
theorem setCells_heap (g:Nat):∀ (vs:List Value) (o:Nat) (w:World) {cur:Array Value} {e:TypeId} {fr:Nat×Nat},w.heap[g]?=some (.cells cur e fr) ->
  ∃ cur',(w.setCells g o vs).heap[g]?=some (.cells cur' e fr)/\cur'.size=cur.size/\(∀ q,q<o∨o+vs.length<=q->cur'[q]?=cur[q]?)/\∀ (j:Nat) v,vs[j]?=some v->o+j<cur.size->cur'[o+j]?=some v
 | [],o,w,cur,e,fr,h=>⟨cur,h,rfl,fun _ _=>rfl,fun j v hj=>by simp at hj⟩
 | v::r,o,w,cur,e,fr,h=>by
  rw [World.setCells]
  obtain ⟨cur',h1,h2,h3,h4⟩:=setCells_heap g r (o+1) _ (heap_set w g o v h)
  refine ⟨cur',h1,by simpa using h2,fun q hq=>?_,fun j u hj hlt=>?_⟩
  ·rw [h3 q (by simp at hq;omega),Array.getElem?_setIfInBounds_ne (by simp at hq;omega)]
  ·cases j with
   | zero =>
    simp at hj;subst hj
    rw [Nat.add_zero,h3 o (by omega)]
    simp at hlt
    simp [hlt]
   | succ j =>
    have:=h4 j u (by simpa using hj) (by simpa using by omega)
    rw [show o+(j+1)=o+1+j by omega];exact this
theorem cell_of {w:World} {g:Nat} {cur:Array Value} {e:TypeId} (h:w.heap[g]?=some (.cells cur e (0,0))) (q:Nat):w.cell? ⟨g,q,none⟩=cur[q]?:=by
 simp [World.cell?,h]
theorem frozen_of {w:World} {g:Nat} {cur:Array Value} {e:TypeId} (h:w.heap[g]?=some (.cells cur e (0,0))) (q:Nat):w.frozen? ⟨g,q,none⟩=false:=by
 simp [World.frozen?,h]
theorem shape_of {w:World} {g:Nat} {cur:Array Value} {e:TypeId} (h:w.heap[g]?=some (.cells cur e (0,0))):w.shape? g=some (e,cur.size):=by
 simp [World.shape?,h]
section
variable {P:Program}
theorem run_copy_any (w:World) (dT sT ty elem:TypeId) (b o dLen dCap:Nat) (a:Addr) (sLen sCap:Nat) (cs:List Value) (i:TypeInfo)
  (hu:P.underlying dT=some (.slice elem)) (hs:P.info? elem=some i) (hn:cs.length=Nat.min sLen dLen*i.size)
  (hsrc:∀ j v,cs[j]?=some v->w.cell? (a.add j)=some v) (hc:∀ j,j<cs.length->(w.cell? ⟨b,o+j,none⟩).isSome=true) (hf:∀ j,j<cs.length->w.frozen? ⟨b,o+j,none⟩=false) (h1:∀ v∈cs,v.oneCell'=true) :
  (Builtin.copy_ #[dT,sT] ty #[.slice (some ⟨b,o,none⟩) dLen dCap,.slice (some a) sLen sCap]).run P w=.ok (goInt (Nat.min sLen dLen)) (w.setCells b o cs):=by
 have hfc:=run_firstCells_some (P:=P) w i.size (Nat.min sLen dLen) a sLen sCap cs hn hsrc
 have hst:=run_storeCells_cells (P:=P) b o cs 0 w (by simpa using hc) (by simpa using hf) h1
 simp only [Nat.add_zero] at hst
 simp [Builtin.copy_,run_underlying hu,sizeOf,typeInfo,hs,Builtin.lenOf,hfc,hst]
theorem run_clear_any (w:World) (t e ty:TypeId) (z:Value) (ht:P.underlying t=some (.slice e)) (hv:∀ w,(zeroValue e).run P w=.ok z w) (h1:∀ v∈z.cells,v.oneCell'=true) (b o n c:Nat) (hn:0<n)
  (hc:∀ j,j<n*z.cells.size->(w.cell? ⟨b,o+j,none⟩).isSome=true) (hf:∀ j,j<n*z.cells.size->w.frozen? ⟨b,o+j,none⟩=false) :
  ∃ zs:List Value,(Builtin.clear_ #[t] ty #[.slice (some ⟨b,o,none⟩) n c]).run P w=.ok (.tuple #[]) (w.setCells b o zs)/\zs.length=n*z.cells.size:=by
 have hl:(Builtin.zeroCells z.cells n).toList.length=n*z.cells.size:=by simp [Builtin.zeroCells]
 have hone:∀ v∈(Builtin.zeroCells z.cells n).toList,v.oneCell'=true:=fun v hv'=>by
  simp only [Builtin.zeroCells,Array.toList_map,List.mem_map] at hv'
  obtain ⟨k,hk,rfl⟩:=hv'
  have hk:k<n*z.cells.size:=by simpa using hk
  have hlt:k % z.cells.size<z.cells.size:=Nat.mod_lt _ (by
   rcases Nat.eq_zero_or_pos z.cells.size with h | h
   ·rw [h] at hk;simp at hk
   ·exact h)
  rw [getElem!_pos z.cells _ hlt]
  exact h1 _ (Array.getElem_mem hlt)
 have hst:=run_storeCells_cells (P:=P) b o (Builtin.zeroCells z.cells n).toList 0 w (by rw [hl];simpa using hc) (by rw [hl];simpa using hf) hone
 simp only [Nat.add_zero] at hst
 obtain ⟨m,rfl⟩:∃ m,n=m+1:=⟨n-1,by omega⟩
 exact ⟨_,by simp [Builtin.clear_,run_underlying ht,hv,hst],hl⟩
end
def delR {C:Type} (es:Rows C) (i j:Nat):Rows C:=⟨es.n-(j-i),fun k=>if k<i then es.f k else es.f (k+(j-i))⟩
def insR {C:Type} (es:Rows C) (i:Nat) (row:List C):Rows C:=⟨es.n+1,fun k=>if k<i then es.f k else if k=i then row else es.f (k-1)⟩
def DelCall (P:Program) (f:FuncId) (e:TypeId) (z:Nat):Prop:=∀ (w:World) (g n cap i j:Nat) (cur:Array Value),w.heap[g]?=some (.cells cur e (0,0))->cur.size=cap*z->n<=cap->cap<=maxLen->i<j->j<=n->(∀ q v,q<n*z->cur[q]?=some v->v.oneCell'=true) ->
 Calls P f #[.slice (some ⟨g,0,none⟩) n cap,.int .i64 i,.int .i64 j] w fun ed w'=>ed=.returned (.slice (some ⟨g,0,none⟩) (n-(j-i)) cap)/\∃ cur':Array Value,w'.heap[g]?=some (.cells cur' e (0,0))/\cur'.size=cur.size /\
  (∀ q,q<i*z->cur'[q]?=cur[q]?)/\(∀ q,i*z<=q->q<(n-(j-i))*z->cur'[q]?=cur[q+(j-i)*z]?)/\Oth w w' g
def InsCall (P:Program) (f:FuncId) (e:TypeId) (z:Nat):Prop:=∀ (w:World) (A:Option Nat) (n c i h vc:Nat) (olds news:List Value),i<=n->n<=c->c<=maxLen->n<=1000->olds.length=n*z->news.length=z->(∀ v∈olds,v.oneCell'=true)->(∀ v∈news,v.oneCell'=true) ->
 (A=none->n=0/\c=0)->(∀ g,A=some g->g≠h/\∃ cur:Array Value,w.heap[g]?=some (.cells cur e (0,0))/\cur.size=c*z/\∀ q,q<n*z->cur[q]?=olds[q]?)->(∃ hcur:Array Value,w.heap[h]?=some (.cells hcur e (0,0))/\∀ q,q<z->hcur[q]?=news[q]?) ->
 Calls P f #[.slice (A.map fun g=>⟨g,0,none⟩) n c,.int .i64 i,.slice (some ⟨h,0,none⟩) 1 vc] w fun ed w'=>∃ (g' c':Nat) (cur':Array Value),ed=.returned (.slice (some ⟨g',0,none⟩) (n+1) c')/\w'.heap[g']?=some (.cells cur' e (0,0))/\cur'.size=c'*z/\n+1<=c'/\c'<=maxLen /\
  (∀ q,q<(n+1)*z->cur'[q]?=(olds.take (i*z)++news++olds.drop (i*z))[q]?)/\(A=some g'∨w.heap.size<=g')/\(∀ b,b<w.heap.size->A≠some b->w'.heap[b]?=w.heap[b]?)/\w'.os=w.os/\w'.tape=w.tape/\w'.output=w.output/\w.heap.size<=w'.heap.size
theorem rel_ret {P:Program} {m:Nat} {w w':World} {F0:CP} {I0:Nat->Prop} {args:Array Value} {ins:L} {I:Nat->Prop} {U:Nat->Nat->Value} {B:Nat->Nat×Nat} {F:Nat->FP} (hr:RelW ⟨P,m,w,F0,I0,[],#[]⟩ I U B F (mk ins) ⟨args,[]⟩ w)
  {y:CV} {v:Value} {N:FP} (hy:Rep P w' I y v N) (hN:∀ b,N b->b<w'.heap.size/\¬ I b/\(w.heap.size<=b∨∀ q,F0 b q)) (hf:Fr w w' F0) :
  Rel ⟨P,m+1,w,F0,I0,[],args⟩ (mk [(m,⟨.one,[.c y],[]⟩)]) ⟨args.push v,[]⟩ w':=by
 have hsz:args.size=m:=hr.size
 refine ⟨I,fun _ _=>v,fun _=>(0,0),fun t=>if t=m then N else FP.none,⟨by simp [hsz],rfl,fun t K hK=>?_,fun t t' b h1 h2=>?_,fun t b hb=>?_,fun t b hb=>?_,fun b hb=>Nat.lt_of_lt_of_le (hr.ro b hb) hf.size,hr.ro0,hr.roN,hf⟩⟩
 ·simp only [mk,up] at hK
  split at hK
  ·rename_i ht
   subst ht;cases hK
   refine ⟨Nat.lt_succ_self _,⟨⟨fun _ _=>hy.one,rfl,?_⟩,⟨fun o=>if o=0 then N else FP.none,fun o x hx=>?_,fun o o' b h1 h2=>?_,fun o b hb=>?_⟩,fun b hb=>by cases hb.1⟩⟩
   ·show (args.push v).getD t undef=v
    rw [<- hsz];simp [Array.getD_eq_getD_getElem?]
   ·cases o with
    | zero=>simp at hx;subst hx;exact hy
    | succ o=>simp at hx
   ·by_cases e1:o=0<;>by_cases e2:o'=0
    ·omega
    ·simp [e2,FP.none] at h2
    ·simp [e1,FP.none] at h1
    ·simp [e1,FP.none] at h1
   ·by_cases e1:o=0
    ·simp [e1] at hb;exact ⟨by simpa using hb,fun hr=>by cases hr.1⟩
    ·simp [e1,FP.none] at hb
  ·cases hK
 ·by_cases e1:t=m<;>by_cases e2:t'=m
  ·rw [e1,e2]
  ·simp [e2,FP.none] at h2
  ·simp [e1,FP.none] at h1
  ·simp [e1,FP.none] at h1
 ·by_cases e1:t=m
  ·simp [e1] at hb;exact ⟨(hN b hb).1,(hN b hb).2.1⟩
  ·simp [e1,FP.none] at hb
 ·by_cases e1:t=m
  ·simp [e1] at hb;exact (hN b hb).2.2.imp id .inl
  ·simp [e1,FP.none] at hb
end Go.Proofs.AI
namespace Go.Proofs.AI
open Go.RowKit
set_option linter.unusedVariables false
set_option linter.unusedSimpArgs false
abbrev kc (y:CV):Ky:=⟨.one,[.c y],[]⟩
theorem arr3 {args:Array Value} (h:args.size=3):args=#[args.getD 0 undef,args.getD 1 undef,args.getD 2 undef]:=by
 refine Array.ext (by simp [h]) fun j h1 h2=>?_
 have hj:j=0∨j=1∨j=2:=by omega
 rcases hj with rfl | rfl | rfl<;>simp [Array.getD_eq_getD_getElem?,h1]
theorem Fr.oth {w w':World} {g:Nat} {F0:CP} (h:Oth w w' g) (hg:∀ q,F0 g q):Fr w w' F0 :=
 ⟨h.os,h.tape,h.output,h.size,fun b hb hn=>h.block b hb (by rintro rfl;exact hn 0 (hg 0)),fun b cs e fr hn hb=>by
  have hlt:b<w.heap.size:=by
   rcases Nat.lt_or_ge b w.heap.size with h1 | h1
   ·exact h1
   ·rw [Array.getElem?_eq_none h1] at hb;cases hb
  exact ⟨cs,(h.block b hlt (by rintro rfl;exact hn hg)).trans hb,fun _ _=>rfl⟩⟩
theorem delR_l {C:Type} (es:Rows C) {i j k:Nat} {row:List C} (hij:i<j) (hj:j<=es.n) (h:(delR es i j).l[k]?=some row):k<es.n-(j-i)/\es.l[if k<i then k else k+(j-i)]?=some row:=by
 obtain ⟨h1,h2⟩:=Rows.l_lt h
 simp only [delR] at h1 h2
 refine ⟨h1,?_⟩
 split at h2<;>rename_i hk
 ·rw [if_pos hk,Rows.l_eq es (by omega),h2]
 ·rw [if_neg hk,Rows.l_eq es (by omega),h2]
theorem insR_l {C:Type} (es:Rows C) {i k:Nat} {row0 row:List C} (hi:i<=es.n) (h:(insR es i row0).l[k]?=some row):k<es.n+1/\(k<i/\es.l[k]?=some row∨k=i/\row=row0∨i<k/\es.l[k-1]?=some row):=by
 obtain ⟨h1,h2⟩:=Rows.l_lt h
 simp only [insR] at h1 h2
 refine ⟨h1,?_⟩
 split at h2<;>rename_i hk
 ·exact .inl ⟨hk,by rw [Rows.l_eq es (by omega),h2]⟩
 ·split at h2<;>rename_i hk2
  ·exact .inr (.inl ⟨hk2,h2.symm⟩)
  ·exact .inr (.inr ⟨by omega,by rw [Rows.l_eq es (by omega),h2]⟩)
section
variable {P:Program} {f:FuncId} {e:TypeId} {z:Nat}
theorem del_fun (hc:DelCall P f e z) (hz:P.cellsOf e=z) (hent:∀ args w,(callFunc f args).run P w=.ok (.enter f args) w) (es:Rows CV) (i j:Nat) (hij:i<j) (hj:j<=es.n) :
  FunOK P f 3 [] [(0,kc (.ow e es)),(1,kc (.n .i64 i)),(2,kc (.n .i64 j))] (·=[(3,kc (.ow e (delR es i j)))]):=by
 intro F0 I0 args w hs ⟨I,U,B,F,hr⟩
 obtain ⟨_,r0,⟨N0,n0,_,f0⟩,_⟩:=hr.key 0 (kc (.ow e es)) (by simp [mk,up])
 obtain ⟨_,r1,⟨N1,n1,_⟩,_⟩:=hr.key 1 (kc (.n .i64 i)) (by simp [mk,up])
 obtain ⟨_,r2,⟨N2,n2,_⟩,_⟩:=hr.key 2 (kc (.n .i64 j)) (by simp [mk,up])
 have a0:args.getD 0 undef=U 0 0:=r0.2.2
 have a1:args.getD 1 undef=.int .i64 i:=by rw [show args.getD 1 undef=U 1 0 from r1.2.2];exact rep_n (n1 0 _ rfl)
 have a2:args.getD 2 undef=.int .i64 j:=by rw [show args.getD 2 undef=U 2 0 from r2.2.2];exact rep_n (n2 0 _ rfl)
 have hrep:Rep P w I (.ow e es) (U 0 0) (N0 0):=n0 0 _ rfl
 rcases Rep.ow_inv hrep with ⟨_,h0⟩ | ⟨g,cap,cur,us,G,hv,h1,h2,h3,h4,h5,h6,h7,h8,h9,h10,h11⟩
 ·omega
 rw [hz] at h2 h7 h8
 have hargs:args=#[.slice (some ⟨g,0,none⟩) es.n cap,.int .i64 i,.int .i64 j]:=by rw [arr3 hs,a0,a1,a2,hv]
 have hown:∀ b,N0 0 b->b<w.heap.size/\¬ I b/\∀ q,F0 b q:=fun b hb=>by
  have hb:=(f0 0 b hb).1
  obtain ⟨o1,o2⟩:=hr.own 0 b hb
  refine ⟨o1,o2,?_⟩
  rcases hr.may 0 b hb with m1 | m1 | ⟨K,m1,m2,_⟩
  ·exact absurd m1 (by simp only;omega)
  ·exact m1
  ·simp [mk,up] at m1;subst m1;cases m2.1
 have hone:∀ q v,q<es.n*z->cur[q]?=some v->v.oneCell'=true:=fun q v hq hv'=>by
  rcases Nat.eq_zero_or_pos z with hz0 | hz0
  ·rw [hz0] at hq;simp at hq
  have hk:q / z<es.n:=by rw [Nat.div_lt_iff_lt_mul hz0];exact hq
  have hrow:=Rows.l_eq es hk
  have hl:=h7 _ _ hrow
  have ho:q % z<(es.f (q / z)).length:=by rw [hl];exact Nat.mod_lt _ hz0
  have e1:=h8 _ _ (q % z) hrow ho
  rw [Nat.div_add_mod' q z] at e1
  rw [e1] at hv';cases hv'
  exact (h9 _ _ (q % z) _ hrow (List.getElem?_eq_getElem ho)).one
 unfold CallsTo
 rw [hent]
 rw [hargs]
 refine Calls.mono (hc w g es.n cap i j cur h1 h2 h3 h4 hij hj hone) fun ed w' ⟨d1,cur',d2,d3,d4,d5,d6⟩=>⟨_,d1,_,rfl,?_⟩
 rw [<- hargs]
 refine rel_ret hr (N:=N0 0) ?_ (fun b hb=>?_) (Fr.oth d6 (hown g h5).2.2)
 ·have hG:∀ {k o:Nat} {row:List CV} {x:CV},es.l[k]?=some row->row[o]?=some x->Rep P w' I x (us k o) (G k o):=fun {k o row x} hk ho =>
   (h9 k row o x hk ho).frame (fun b hb=>by
    rcases hb with hb | hb
    ·exact d6.block b (hr.ro b hb) (by rintro rfl;exact h6 hb)
    ·obtain ⟨g1,g2⟩:=h10 k o b hb
     exact d6.block b (hown b g1).1 g2)
  rw [show es.n-(j-i)=(delR es i j).n from rfl]
  refine .ow (fun k o=>us (if k<i then k else k+(j-i)) o) (fun k o=>G (if k<i then k else k+(j-i)) o) d2 (by rw [d3,h2,hz]) (by simp only [delR];omega) h4 h5 h6 (fun k row hk=>?_) (fun k row o hk ho=>?_) (fun k row o x hk ho=>?_) (fun k o b hb=>h10 _ _ _ hb) (fun k o k' o' b hb hb'=>?_)
  ·rw [hz];exact h7 _ _ (delR_l es hij hj hk).2
  ·rw [hz]
   obtain ⟨hlt,hk⟩:=delR_l es hij hj hk
   have e1:=h8 _ _ o hk ho
   have hl:=h7 _ _ hk
   have hoz:o<z:=by omega
   by_cases hki:k<i
   ·simp only [hki,if_true] at e1 ⊢
    rw [d4 _ (by have:(k+1)*z<=i*z:=Nat.mul_le_mul_right z hki;rw [Nat.succ_mul] at this;omega)]
    exact e1
   ·simp only [hki,if_false] at e1 ⊢
    rw [d5 _ (by have:i*z<=k*z:=Nat.mul_le_mul_right z (by omega);omega) (by have:(k+1)*z<=(es.n-(j-i))*z:=Nat.mul_le_mul_right z hlt;rw [Nat.succ_mul] at this;omega)]
    rw [show k*z+o+(j-i)*z=(k+(j-i))*z+o by rw [Nat.add_mul];omega]
    exact e1
  ·exact hG (delR_l es hij hj hk).2 ho
  ·obtain ⟨q1,q2⟩:=h11 _ _ _ _ b hb hb'
   refine ⟨?_,q2⟩
   split at q1<;>split at q1<;>omega
 ·obtain ⟨o1,o2,o3⟩:=hown b hb
  exact ⟨Nat.lt_of_lt_of_le o1 d6.size,o2,.inr o3⟩
def cellsL (cur:Array Value) (m:Nat):List Value:=(List.range m).map fun q=>cur.getD q undef
theorem cellsL_at {cur:Array Value} {m q:Nat} (hq:q<m) (hm:m<=cur.size):(cellsL cur m)[q]?=cur[q]?:=by
 simp [cellsL,List.getElem?_range hq,Array.getD_eq_getD_getElem?,show q<cur.size by omega]
theorem cellsL_len (cur:Array Value) (m:Nat):(cellsL cur m).length=m:=by simp [cellsL]
theorem mid_at {olds news:List Value} {n i z k o:Nat} (hl:olds.length=n*z) (hn:news.length=z) (hi:i<=n) (hk:k<n+1) (ho:o<z) :
  (olds.take (i*z)++news++olds.drop (i*z))[k*z+o]?=if k<i then olds[k*z+o]? else if k=i then news[o]? else olds[(k-1)*z+o]?:=by
 have hiz:i*z<=n*z:=Nat.mul_le_mul_right z hi
 have ht:(olds.take (i*z)).length=i*z:=by rw [List.length_take,hl];omega
 have htn:(olds.take (i*z)++news).length=i*z+z:=by rw [List.length_append,ht,hn]
 by_cases h1:k<i
 ·have:(k+1)*z<=i*z:=Nat.mul_le_mul_right z h1
  rw [Nat.succ_mul] at this
  rw [if_pos h1,List.getElem?_append_left (by omega),List.getElem?_append_left (by omega),List.getElem?_take,if_pos (by omega)]
 ·rw [if_neg h1]
  by_cases h2:k=i
  ·subst h2
   rw [if_pos rfl,List.getElem?_append_left (by omega),List.getElem?_append_right (by omega),ht,Nat.add_sub_cancel_left]
  ·rw [if_neg h2]
   obtain ⟨d,rfl⟩:∃ d,k=i+1+d:=⟨k-(i+1),by omega⟩
   have e1:(i+1+d)*z+o=i*z+z+(d*z+o):=by rw [Nat.add_mul,Nat.add_mul,Nat.one_mul];omega
   have e2:(i+1+d-1)*z+o=i*z+(d*z+o):=by rw [show i+1+d-1=i+d by omega,Nat.add_mul];omega
   rw [List.getElem?_append_right (by rw [htn];omega),htn,e1,Nat.add_sub_cancel_left,List.getElem?_drop,e2]
theorem ins_fun (hc:InsCall P f e z) (hz:P.cellsOf e=z) (hz0:0<z) (hent:∀ args w,(callFunc f args).run P w=.ok (.enter f args) w) (es:Rows CV) (i:Nat) (row:List CV) (hi:i<=es.n) (hn:es.n<=1000) :
  FunOK P f 3 [] [(0,kc (.ow e es)),(1,kc (.n .i64 i)),(2,kc (.ow e (raw [row])))] (·=[(3,kc (.ow e (insR es i row)))]):=by
 intro F0 I0 args w hs ⟨I,U,B,F,hr⟩
 obtain ⟨_,r0,⟨N0,n0,_,f0⟩,_⟩:=hr.key 0 (kc (.ow e es)) (by simp [mk,up])
 obtain ⟨_,r1,⟨N1,n1,_⟩,_⟩:=hr.key 1 (kc (.n .i64 i)) (by simp [mk,up])
 obtain ⟨_,r2,⟨N2,n2,_,f2⟩,_⟩:=hr.key 2 (kc (.ow e (raw [row]))) (by simp [mk,up])
 have a0:args.getD 0 undef=U 0 0:=r0.2.2
 have a1:args.getD 1 undef=.int .i64 i:=by rw [show args.getD 1 undef=U 1 0 from r1.2.2];exact rep_n (n1 0 _ rfl)
 have a2:args.getD 2 undef=U 2 0:=r2.2.2
 have hrep:Rep P w I (.ow e es) (U 0 0) (N0 0):=n0 0 _ rfl
 have hrep2:Rep P w I (.ow e (raw [row])) (U 2 0) (N2 0):=n2 0 _ rfl
 have hown:∀ t,t=0∨t=2->∀ b,F t b->b<w.heap.size/\¬ I b/\∀ q,F0 b q:=fun t ht b hb=>by
  obtain ⟨o1,o2⟩:=hr.own t b hb
  refine ⟨o1,o2,?_⟩
  rcases hr.may t b hb with m1 | m1 | ⟨K,m1,m2,_⟩
  ·exact absurd m1 (by simp only;omega)
  ·exact m1
  ·rcases ht with rfl | rfl<;>(simp [mk,up] at m1;subst m1;cases m2.1)
 rcases Rep.ow_inv hrep2 with ⟨_,h0⟩ | ⟨h,vc,hcur,us2,G2,hv2,p1,p2,p3,p4,p5,p6,p7,p8,p9,p10,p11⟩
 ·simp [raw] at h0
 have hrow:(raw [row]).l[0]?=some row:=by rw [raw_l]<;>rfl
 have hrl:=p7 0 row hrow
 rw [hz] at hrl p2
 have hnews:∀ q,q<z->hcur[q]?=(cellsL hcur z)[q]?:=fun q hq=>by
  have:=p8 0 row q hrow (by omega)
  rw [Nat.zero_mul,Nat.zero_add] at this
  simp [cellsL,List.getElem?_range hq,Array.getD_eq_getD_getElem?,this]
 have hnew1:∀ v∈cellsL hcur z,v.oneCell'=true:=fun v hv=>by
  obtain ⟨q,hq⟩:=List.getElem?_of_mem hv
  have hlt:q<z:=by have:=(List.getElem?_eq_some_iff.1 hq).1;rwa [cellsL_len] at this
  rw [<- hnews q hlt] at hq
  have:=p8 0 row q hrow (by omega)
  rw [Nat.zero_mul,Nat.zero_add,hq] at this
  cases this
  exact (p9 0 row q _ hrow (List.getElem?_eq_getElem (by omega))).one
 have fh:F 2 h:=(f2 0 h p5).1
 obtain ⟨A,cap,cur,us,G,hv,hA0,hA,hcap,hcap2,h7,h8,h9,h10,h11⟩:∃ (A:Option Nat) (cap:Nat) (cur:Array Value) (us:Nat->Nat->Value) (G:Nat->Nat->FP),U 0 0=.slice (A.map fun g=>⟨g,0,none⟩) es.n cap/\(A=none->es.n=0/\cap=0) /\
   (∀ g,A=some g->w.heap[g]?=some (.cells cur e (0,0))/\cur.size=cap*z/\N0 0 g/\¬ I g)/\es.n<=cap/\cap<=maxLen/\(∀ (k:Nat) (row:List CV),es.l[k]?=some row->row.length=z) /\
   (∀ (k:Nat) (row:List CV) (o:Nat),es.l[k]?=some row->o<row.length->cur[k*z+o]?=some (us k o))/\(∀ (k:Nat) (row:List CV) (o:Nat) (x:CV),es.l[k]?=some row->row[o]?=some x->Rep P w I x (us k o) (G k o)) /\
   (∀ k o b,G k o b->N0 0 b/\A≠some b)/\(∀ k o k' o' b,G k o b->G k' o' b->k=k'/\o=o'):=by
  rcases Rep.ow_inv hrep with ⟨e0,h0⟩ | ⟨g,cap,cur,us,G,hv,h1,h2,h3,h4,h5,h6,h7,h8,h9,h10,h11⟩
  ·have hl:es.l=[]:=Rows.l_nil h0
   exact ⟨none,0,#[],fun _ _=>undef,fun _ _=>FP.none,by rw [e0,h0]<;>rfl,fun _=>⟨h0,rfl⟩,fun g hg=>(by cases hg),by omega,by unfold maxLen;omega,fun k row hk=>by simp [hl] at hk,fun k row o hk=>by simp [hl] at hk,fun k row o x hk=>by simp [hl] at hk,fun _ _ _ h=>h.elim,fun _ _ _ _ _ h=>h.elim⟩
  ·rw [hz] at h2 h7 h8
   exact ⟨some g,cap,cur,us,G,hv,fun h=>(by cases h),fun g' hg=>by cases hg;exact ⟨h1,h2,h5,h6⟩,h3,h4,h7,h8,h9,fun k o b hb=>⟨(h10 k o b hb).1,fun h=>(h10 k o b hb).2 (by cases h;rfl)⟩,h11⟩
 have hcs:A≠none->es.n*z<=cur.size:=fun hne=>by
  cases A with
  | none=>exact absurd rfl hne
  | some g=>rw [(hA g rfl).2.1];exact Nat.mul_le_mul_right z hcap
 obtain ⟨olds,holds,holdl⟩:∃ olds:List Value,(∀ q,q<es.n*z->cur[q]?=olds[q]?)/\olds.length=es.n*z:=by
  refine ⟨cellsL cur (es.n*z),fun q hq=>?_,cellsL_len _ _⟩
  cases A with
  | none=>rw [(hA0 rfl).1] at hq;simp at hq
  | some g=>exact (cellsL_at hq (hcs (by simp))).symm
 have hat:∀ {k o:Nat} {r:List CV},es.l[k]?=some r->o<r.length->olds[k*z+o]?=some (us k o):=fun {k o r} hk ho=>by
  have hkn:=(Rows.l_lt hk).1
  have hl:=h7 k r hk
  have:(k+1)*z<=es.n*z:=Nat.mul_le_mul_right z hkn
  rw [Nat.succ_mul] at this
  rw [<- holds _ (by omega)]
  exact h8 k r o hk ho
 have hone:∀ v∈olds,v.oneCell'=true:=fun v hv'=>by
  obtain ⟨q,hq⟩:=List.getElem?_of_mem hv'
  have hlt:q<es.n*z:=by have:=(List.getElem?_eq_some_iff.1 hq).1;rwa [holdl] at this
  have hk:q / z<es.n:=by rw [Nat.div_lt_iff_lt_mul hz0];exact hlt
  have hrow':=Rows.l_eq es hk
  have ho:q % z<(es.f (q / z)).length:=by rw [h7 _ _ hrow'];exact Nat.mod_lt _ hz0
  have e1:=hat hrow' ho
  rw [Nat.div_add_mod' q z,hq] at e1
  cases e1
  exact (h9 _ _ (q % z) _ hrow' (List.getElem?_eq_getElem ho)).one
 have hgh:∀ g,A=some g->g≠h:=fun g hg he=>by
  subst he
  have:=hr.dis _ _ _ (f0 0 g (hA g hg).2.2.1).1 fh
  omega
 have hargs:args=#[.slice (A.map fun g=>⟨g,0,none⟩) es.n cap,.int .i64 i,.slice (some ⟨h,0,none⟩) 1 vc]:=by
  rw [arr3 hs,a0,a1,a2,hv,hv2]<;>rfl
 unfold CallsTo
 rw [hent,hargs]
 refine Calls.mono (hc w A es.n cap i h vc olds (cellsL hcur z) hi hcap hcap2 hn holdl (cellsL_len _ _) hone hnew1 hA0 (fun g hg=>⟨hgh g hg,cur,(hA g hg).1,(hA g hg).2.1,holds⟩) ⟨hcur,p1,hnews⟩) fun ed w' ⟨g',c',cur',d1,d2,d3,d4,d5,d6,d7,d8,d9,d10,d11,d12⟩=>⟨_,d1,_,rfl,?_⟩
 rw [<- hargs]
 have ob:∀ t,t=0∨t=2->∀ b,F t b->b<w.heap.size/\¬ I b/\∀ q,F0 b q:=hown
 have hg':¬ I g'/\(w.heap.size<=g'∨∀ q,F0 g' q):=by
  rcases d7 with h1 | h1
  ·obtain ⟨_,_,q1,q2⟩:=hA g' h1
   exact ⟨q2,.inr (ob 0 (.inl rfl) g' (f0 0 g' q1).1).2.2⟩
  ·exact ⟨fun hI=>absurd (hr.ro g' hI) (by omega),.inl h1⟩
 have hlt':g'<w'.heap.size:=(Array.getElem?_eq_some_iff.1 d2).1
 refine rel_ret hr (N:=fun b=>b=g'∨N0 0 b∨N2 0 b) ?_ (fun b hb=>?_) ⟨d9,d10,d11,d12,fun b hb hnF=>d8 b hb (fun hAb=>hnF 0 ((ob 0 (.inl rfl) b (f0 0 b (hA b hAb).2.2.1).1).2.2 0)),fun b cs e' fr hnF hb=>?_⟩
 ·have same:∀ {x:CV} {u:Value} {N:FP},Rep P w I x u N->(∀ b,N b->(N0 0 b/\A≠some b)∨N2 0 b)->Rep P w' I x u N:=fun {x u N} hx hN=>hx.frame (fun b hb=>by
   rcases hb with hb | hb
   ·exact d8 b (hr.ro b hb) (fun hAb=>(hA b hAb).2.2.2 hb)
   ·rcases hN b hb with ⟨q1,q2⟩ | q1
    ·exact d8 b (ob 0 (.inl rfl) b (f0 0 b q1).1).1 q2
    ·refine d8 b (ob 2 (.inr rfl) b (f2 0 b q1).1).1 (fun hAb=>?_)
     have:=hr.dis _ _ _ (f0 0 b (hA b hAb).2.2.1).1 (f2 0 b q1).1
     omega)
  have hGg:∀ b,(N0 0 b/\A≠some b)∨N2 0 b->b≠g':=fun b hb he=>by
   subst he
   rcases d7 with h1 | h1
   ·rcases hb with ⟨_,q⟩ | q
    ·exact q h1
    ·have:=hr.dis _ _ _ (f0 0 b (hA b h1).2.2.1).1 (f2 0 b q).1;omega
   ·rcases hb with ⟨q,_⟩ | q
    ·have:=(ob 0 (.inl rfl) b (f0 0 b q).1).1;omega
    ·have:=(ob 2 (.inr rfl) b (f2 0 b q).1).1;omega
  rw [show es.n+1=(insR es i row).n from rfl]
  refine .ow (fun k o=>if k<i then us k o else if k=i then us2 0 o else us (k-1) o) (fun k o=>if k<i then G k o else if k=i then G2 0 o else G (k-1) o) d2 (by rw [d3,hz]) (by simp only [insR];exact d4) d5 (.inl rfl) hg'.1 (fun k r hk=>?_) (fun k r o hk ho=>?_) (fun k r o x hk ho=>?_) (fun k o b hb=>?_) (fun k o k' o' b hb hb'=>?_)
  ·rw [hz]
   obtain ⟨_,⟨_,q⟩ | ⟨_,rfl⟩ | ⟨_,q⟩⟩:=insR_l es hi hk
   ·exact h7 _ _ q
   ·exact hrl
   ·exact h7 _ _ q
  ·rw [hz]
   obtain ⟨hlt,q⟩:=insR_l es hi hk
   have hoz:o<z:=by
    rcases q with ⟨_,q⟩ | ⟨_,rfl⟩ | ⟨_,q⟩
    ·rw [<- h7 _ _ q];exact ho
    ·rw [<- hrl];exact ho
    ·rw [<- h7 _ _ q];exact ho
   rw [d6 _ (by have:(k+1)*z<=(es.n+1)*z:=Nat.mul_le_mul_right z hlt;rw [Nat.succ_mul] at this;omega),mid_at holdl (cellsL_len _ _) hi hlt hoz]
   rcases q with ⟨q0,q⟩ | ⟨rfl,rfl⟩ | ⟨q0,q⟩
   ·simp only [q0,if_true];exact hat q ho
   ·simp only [Nat.lt_irrefl,if_false,if_true]
    rw [<- hnews o hoz]
    have:=p8 0 r o hrow ho
    rwa [Nat.zero_mul,Nat.zero_add] at this
   ·simp only [show ¬ k<i by omega,show ¬ k=i by omega,if_false];exact hat q ho
  ·obtain ⟨hlt,q⟩:=insR_l es hi hk
   rcases q with ⟨q0,q⟩ | ⟨rfl,rfl⟩ | ⟨q0,q⟩
   ·simp only [q0,if_true];exact same (h9 _ _ _ _ q ho) (fun b hb=>.inl (h10 _ _ _ hb))
   ·simp only [Nat.lt_irrefl,if_false,if_true];exact same (p9 0 _ _ _ hrow ho) (fun b hb=>.inr (p10 _ _ _ hb).1)
   ·simp only [show ¬ k<i by omega,show ¬ k=i by omega,if_false];exact same (h9 _ _ _ _ q ho) (fun b hb=>.inl (h10 _ _ _ hb))
  ·have:(N0 0 b/\A≠some b)∨N2 0 b:=by
    split at hb
    ·exact .inl (h10 _ _ _ hb)
    ·split at hb
     ·exact .inr (p10 _ _ _ hb).1
     ·exact .inl (h10 _ _ _ hb)
   exact ⟨.inr (this.imp (·.1) id),hGg b this⟩
  ·have no:∀ {k1 o1 o2:Nat},G k1 o1 b->G2 0 o2 b->False:=fun {k1 o1 o2} q1 q2=>by
    have:=hr.dis _ _ _ (f0 0 b (h10 _ _ _ q1).1).1 (f2 0 b (p10 _ _ _ q2).1).1;omega
   split at hb
   ·split at hb'
    ·exact h11 _ _ _ _ _ hb hb'
    ·split at hb'
     ·exact (no hb hb').elim
     ·have:=h11 _ _ _ _ _ hb hb';omega
   ·split at hb
    ·split at hb'
     ·exact (no hb' hb).elim
     ·split at hb'
      ·have:=p11 _ _ _ _ _ hb hb';omega
      ·exact (no hb' hb).elim
    ·split at hb'
     ·have:=h11 _ _ _ _ _ hb hb';omega
     ·split at hb'
      ·exact (no hb hb').elim
      ·have:=h11 _ _ _ _ _ hb hb';omega
 ·rcases hb with rfl | hb | hb
  ·exact ⟨hlt',hg'⟩
  ·obtain ⟨q1,q2,q3⟩:=ob 0 (.inl rfl) b (f0 0 b hb).1
   exact ⟨Nat.lt_of_lt_of_le q1 d12,q2,.inr q3⟩
  ·obtain ⟨q1,q2,q3⟩:=ob 2 (.inr rfl) b (f2 0 b hb).1
   exact ⟨Nat.lt_of_lt_of_le q1 d12,q2,.inr q3⟩
 ·have hlt:b<w.heap.size:=(Array.getElem?_eq_some_iff.1 hb).1
  exact ⟨cs,(d8 b hlt (fun hAb=>hnF (ob 0 (.inl rfl) b (f0 0 b (hA b hAb).2.2.1).1).2.2)).trans hb,fun _ _=>rfl⟩
end
end Go.Proofs.AI
namespace Go.Proofs.AI
open Go.RowKit Go.Proofs Go.Lib Go.Shelf
set_option linter.unusedVariables false
set_option linter.unusedSimpArgs false
set_option maxRecDepth 100000
theorem isAgg_of {P:Program} {t:TypeId} {d:TypeDesc} (h:P.underlying t=some d) (w:World):(isAgg t).run P w=.ok d.isRow w:=by
 cases d<;>simp [isAgg,run_underlying h,TypeDesc.isRow]
theorem sizeOf_of {P:Program} {t:TypeId} {i:TypeInfo} (h:P.info? t=some i) (w:World):(Go.sizeOf t).run P w=.ok i.size w:=by
 simp [Go.sizeOf,typeInfo,h,Sem.run]
theorem zero_of {P:Program} {t:TypeId} {i:TypeInfo} {z:Value} (h:P.info? t=some i) (hz:i.zero=some z) (w:World):(zeroValue t).run P w=.ok z w:=by
 simp [zeroValue,typeInfo,h,hz,Sem.run]
end Go.Proofs.AI
namespace Go.Proofs.AI
open Go.RowKit Go.Proofs Go.Lib Go.Shelf
set_option linter.unusedVariables false
set_option linter.unusedSimpArgs false
set_option maxRecDepth 100000
theorem setCells_heap_eq {W W1:World} (h:W.heap=W1.heap) (B o:Nat) (vs:List Value):(W.setCells B o vs).heap=(W1.setCells B o vs).heap:=by
 induction vs generalizing W W1 o with
 | nil=>exact h
 | cons v vs ih=>exact ih (by simp only [World.setCell,h]) (o+1)
theorem zc_size (z:Value) (k:Nat):(Builtin.zeroCells z.cells k).size=k*z.cells.size:=by simp [Builtin.zeroCells]
end Go.Proofs.AI
namespace Go.Proofs.AI
open Go.RowKit Go.Proofs
set_option linter.unusedVariables false
set_option linter.unusedSimpArgs false
set_option maxRecDepth 100000
theorem ent_of {P:Program} {f:FuncId} {fn:Func} {c:Code} (hf:P.funcs[f]?=some fn) (hb:fn.body=some c) (hn:(fn.name=="runtime.NumGoroutine")=false) (args:Array Value) (w:World):(callFunc f args).run P w=.ok (.enter f args) w:=by
 have hn':fn.name≠"runtime.NumGoroutine":=by simpa using hn
 simp [callFunc,program,Sem.run,hf,hn',hb]
theorem typ_del {C α:Type} (d:α) (g:α->List C) (xs:List α) (i:Nat) (hi:i<xs.length):delR (typ d g xs) i (i+1)=typ d g (xs.eraseIdx i):=by
 simp only [delR,typ,List.length_eraseIdx,if_pos hi]
 congr 1
 ·omega
 ·funext k
  simp only [List.getD_eq_getElem?_getD,List.getElem?_eraseIdx]
  split
  ·rfl
  ·rw [show k+(i+1-i)=k+1 by omega]
theorem typ_ins {C α:Type} (d:α) (g:α->List C) (xs:List α) (i:Nat) (x:α) (hi:i<=xs.length):insR (typ d g xs) i (g x)=typ d g (xs.insertIdx i x):=by
 simp only [insR,typ,List.length_insertIdx,if_pos hi]
 congr 1
 funext k
 simp only [List.getD_eq_getElem?_getD,List.getElem?_insertIdx]
 split
 ·rfl
 ·split
  ·rename_i h1 h2;subst h2;simp [hi]
  ·rfl
end Go.Proofs.AI
namespace Go.Proofs.AI
open Go.RowKit Go.Proofs
set_option linter.unusedVariables false
set_option linter.unusedSimpArgs false
set_option maxRecDepth 100000
theorem getD_set_eq {α:Type} (l:List α) {i:Nat} (h:i<l.length) (x d:α):(l.set i x).getD i d=x:=by
 simp [List.getD_eq_getElem?_getD,h]
end Go.Proofs.AI
namespace Go.Proofs.AI
open Go.RowKit Go.Proofs
set_option linter.unusedVariables false
set_option linter.unusedSimpArgs false
set_option maxRecDepth 100000
theorem tl_eq {a b:ByteArray}:(a.toList==b.toList)=decide (a=b):=by
 rw [Bool.eq_iff_iff,decide_eq_true_eq]
 exact eqB_iff' (a:=a) (b:=b)
theorem len_ne {m n:Nat} (h:((m:Int) != (n:Int))=false):m=n:=by
 simp [bne] at h;omega
theorem laws_jaOk_ok (a:Unit):FunOK Tryz.prog 26 0 [] [] (·=[(0,kB true)]):=by
 refine fun_to (E:=⟨tab,ctOf [impl_WrtOk_c],4,[],[(0,[]),(1,[0])],[],[],[],[]⟩) tab_ok mixed Tryz.func26 rfl Tryz.ntmps26 (rvs:=[.tmp 0]) Tryz.results26 rfl fun hl=>?_
 refine cast (show (∃ (b:Wrt),((ByteArray.mk #[(97:UInt8),(49:UInt8)])=b.key/\false=b.del/\cnRs (frozenRs (typ i_0 (fun (y:Int)=>[cn_ y]) [i_1]))=t_I b.val)/\wrtB b=true)=_ by kernel_rfl) ?_
 delta i_0 i_1 t_I cn_
 simp only [zza,true_and,and_true,and_self,ne_eq,cI_app,cWrtO_app,cWrtS_app,cWrtO_1,cItemO_1,opr_ex,zcast,frz_nil,nil_map]
 exact ⟨⟨⟨#[97,49]⟩,false,[1]⟩,rfl,rfl,rfl,by decide⟩
def laws_jaOk_c:Con Tryz.prog:=con0 [] fun b:Unit=>laws_jaOk_ok b
end Go.Proofs.AI
namespace Go.Proofs.AI
open Go.RowKit Go.Proofs
set_option linter.unusedVariables false
set_option linter.unusedSimpArgs false
set_option maxRecDepth 100000
theorem wrt_ext {a b:Wrt} (h1:a.key=b.key) (h2:a.del=b.del) (h3:a.val=b.val):a=b:=by cases a;cases b;simp_all
theorem laws_jaTexts_ok (a:List ByteArray) (b:List ByteArray):FunOK Tryz.prog 191 2 [] [(0,k1 (sS a)),(1,k1 (sS b))] (·=[(2,kB (decide (a=b)))]):=by
 refine fun_to (E:=⟨tab,ctOf [],26,[],[(0,[0,1]),(1,[0,1,10]),(2,[4]),(3,[0,1,5]),(4,[0,1,5,14]),(5,[0,1,5]),(6,[0,1,5,25]),(7,[4]),(8,[4])],[(0,⟨Nat,fun x=>[(0,(k1 (.sh 9 (typ ByteArray.empty eS a)))),(1,(k1 (.sh 9 (typ ByteArray.empty eS b)))),(5,(k1 (.n .i64 (x:Int))))]⟩)],[],[],[]⟩) tab_ok mixed Tryz.func191 rfl Tryz.ntmps191 (rvs:=[.tmp 4]) Tryz.results191 rfl fun hl=>?_
 refine cast (show ((((zi a.length) != zi b.length)=true->false=decide (a=b))/\(((zi a.length) != zi b.length)=false->∃ (pre:Nat->Prop),∃ (μ:Nat->Nat),∃ (x0:Nat),(q_S a a/\q_S b b/\i_0=zi x0)/\pre x0/\∀ (x:Nat),pre x->(decide (zi x<zi a.length)=true->(i_0<=zi x/\zi x<zi a.length)/\(i_0<=zi x/\zi x<zi b.length)/\((!(g_ByteArray a x).toList==(g_ByteArray b x).toList)=true->false=decide (a=b))/\((!(g_ByteArray a x).toList==(g_ByteArray b x).toList)=false->∃ (y:Nat),(q_S a a/\q_S b b/\wr_ ((zi x)+i_1)=zi y)/\pre y/\μ y<μ x))/\(decide (zi x<zi a.length)=false->true=decide (a=b))))=_ by kernel_rfl) ?_
 delta i_0 i_1 wr_ zi t_S q_S g_ByteArray
 have hx:a.length<=9223372036854775807:=hl.1 _ (List.mem_singleton.2 rfl)
 simp only [zza,true_and,and_true,and_self,ne_eq,cI_app,cWrtO_app,cWrtS_app,cWrtO_1,cItemO_1,opr_ex,zcast,frz_nil,nil_map]
 refine ⟨fun h=>?_,fun h=>?_⟩
 ·exact (decide_eq_false fun he=>h (by rw [he])).symm
 have hlen:=len_ne h
 refine ⟨fun i=>i<=a.length/\∀ j,j<i->a.getD j ByteArray.empty=b.getD j ByteArray.empty,⟨by omega,fun j hj=>absurd hj (Nat.not_lt_zero _)⟩,fun i=>a.length-i,fun i hp=>?_⟩
 obtain ⟨h1,h2⟩:=hp
 refine ⟨fun hlt=>⟨by omega,hlt,by omega,by omega,fun e=>?_,fun e=>⟨i+1,wrapN (by omega),⟨by omega,below_succ h2 ?_⟩,by simp only;omega⟩⟩,fun hge=>?_⟩
 ·rw [tl_eq] at e
  have e:¬ a.getD i ByteArray.empty=b.getD i ByteArray.empty:=by simpa using e
  exact (decide_eq_false fun he=>e (by rw [he])).symm
 ·rw [tl_eq] at e
  simpa using e
 ·exact (decide_eq_true (ext_getD (d:=ByteArray.empty) hlen fun j hj=>h2 j (by omega))).symm
def laws_jaTexts_c:Con Tryz.prog:=con0 [.lend,.lend] fun b:List ByteArray×List ByteArray=>laws_jaTexts_ok (b.1) (b.2)
theorem laws_jaWrites_ok (a:List Wrt) (b:List Wrt):FunOK Tryz.prog 192 2 [] [(0,k1 (sWrts a)),(1,k1 (sWrts b))] (·=[(2,kB (decide (a=b)))]):=by
 refine fun_to (E:=⟨tab,ctOf [laws_jaInts_c],55,[],[(0,[0,1]),(1,[0,1,10]),(2,[4]),(3,[0,1,5]),(4,[0,1,5,14]),(5,[0,1,5]),(6,[0,1,5,54]),(7,[4]),(8,[4])],[(0,⟨Nat,fun x=>[(0,(k1 (.sh 102 (typ dWrt eWrtS a)))),(1,(k1 (.sh 102 (typ dWrt eWrtS b)))),(5,(k1 (.n .i64 (x:Int))))]⟩)],[],[],[]⟩) tab_ok mixed Tryz.func192 rfl Tryz.ntmps192 (rvs:=[.tmp 4]) Tryz.results192 rfl fun hl=>?_
 refine cast (show ((((zi a.length) != zi b.length)=true->false=decide (a=b))/\(((zi a.length) != zi b.length)=false->∃ (pre:Nat->Prop),∃ (μ:Nat->Nat),∃ (x0:Nat),(q_c a a/\q_c b b/\i_0=zi x0)/\pre x0/\(∀ (x:Nat),let k_2:Prop:=i_0<=zi x/\zi x<zi a.length;let k_1:Prop:=i_0<=zi x/\zi x<zi b.length;pre x->(decide (zi x<zi a.length)=true->k_2/\k_1/\((!(g_Wrt a x).key.toList==(g_Wrt b x).key.toList)=false->k_2/\k_1/\((if true=true then !(g_Wrt a x).del==(g_Wrt b x).del else (g_Wrt a x).del==(g_Wrt b x).del)=false->k_2/\k_1/\(∃ (b_1:y_10),(q_I (g_Wrt a x).val b_1.1/\q_I (g_Wrt b x).val b_1.2)/\((!decide (b_1.1=b_1.2))=true->false=decide (a=b))/\((!decide (b_1.1=b_1.2))=false->∃ (y:Nat),(q_c a a/\q_c b b/\wr_ ((zi x)+i_1)=zi y)/\pre y/\μ y<μ x)))/\((if true=true then !(g_Wrt a x).del==(g_Wrt b x).del else (g_Wrt a x).del==(g_Wrt b x).del)=true->false=decide (a=b)))/\((!(g_Wrt a x).key.toList==(g_Wrt b x).key.toList)=true->false=decide (a=b)))/\(decide (zi x<zi a.length)=false->true=decide (a=b)))))=_ by kernel_rfl) ?_
 delta i_0 i_1 wr_ zi t_I q_I g_Wrt t_c q_c y_10
 have hx:a.length<=9223372036854775807:=hl.1 _ (List.mem_singleton.2 rfl)
 simp only [zza,true_and,and_true,and_self,ne_eq,cI_app,cWrtO_app,cWrtS_app,cWrtO_1,cItemO_1,opr_ex,zcast,frz_nil,nil_map]
 refine ⟨fun h=>?_,fun h=>?_⟩
 ·exact (decide_eq_false fun he=>h (by rw [he])).symm
 have hlen:=len_ne h
 simp only [i1,if_true]
 refine ⟨fun i=>i<=a.length/\∀ j,j<i->a.getD j dWrt=b.getD j dWrt,⟨by omega,fun j hj=>absurd hj (Nat.not_lt_zero _)⟩,fun i=>a.length-i,fun i hp=>?_⟩
 obtain ⟨h1,h2⟩:=hp
 refine ⟨fun hlt=>⟨by omega,hlt,by omega,by omega,fun e1=>⟨by omega,hlt,by omega,by omega,fun e2=>⟨by omega,hlt,by omega,by omega,fun e3=>?_,fun e3=>⟨i+1,wrapN (by omega),⟨by omega,below_succ h2 ?_⟩,by simp only;omega⟩⟩,fun e2=>?_⟩,fun e1=>?_⟩,fun hge=>?_⟩
 ·have e:¬ (a.getD i dWrt).val=(b.getD i dWrt).val:=by simpa using e3
  exact (decide_eq_false fun he=>e (by rw [he])).symm
 ·rw [tl_eq] at e1
  exact wrt_ext (by simpa using e1) (by simpa using e2) (by simpa using e3)
 ·have e:¬ (a.getD i dWrt).del=(b.getD i dWrt).del:=by simpa using e2
  exact (decide_eq_false fun he=>e (by rw [he])).symm
 ·rw [tl_eq] at e1
  have e:¬ (a.getD i dWrt).key=(b.getD i dWrt).key:=by simpa using e1
  exact (decide_eq_false fun he=>e (by rw [he])).symm
 ·exact (decide_eq_true (ext_getD (d:=dWrt) hlen fun j hj=>h2 j (by omega))).symm
def laws_jaWrites_c:Con Tryz.prog:=con0 [.lend,.lend] fun b:List Wrt×List Wrt=>laws_jaWrites_ok (b.1) (b.2)
theorem spec_l3Has_ok (xs:List Int) (n:Int):FunOK Tryz.prog 163 2 [] [(0,k1 (sI xs)),(1,kI n)] (·=[(2,kB (xs.any fun x=>x==n))]):=by
 refine fun_to (E:=⟨tab,ctOf [],18,[],[(0,[0,1]),(1,[0,1,5]),(2,[0,1,5,9]),(3,[0,1,5]),(4,[0,1,5,17]),(5,[4]),(6,[4])],[(0,⟨Nat,fun x=>[(0,(k1 (.sh 3 (typ (0:Int) eI xs)))),(1,(k1 (.n .i64 n))),(5,(k1 (.n .i64 (x:Int))))]⟩)],[],[],[]⟩) tab_ok mixed Tryz.func163 rfl Tryz.ntmps163 (rvs:=[.tmp 4]) Tryz.results163 rfl fun hl=>?_
 refine cast (show (∃ (pre:Nat->Prop),∃ (μ:Nat->Nat),∃ (x0:Nat),(q_I xs xs/\n=n/\i_0=zi x0)/\pre x0/\∀ (x:Nat),pre x->(decide (zi x<zi xs.length)=true->(i_0<=zi x/\zi x<zi xs.length)/\((g_Int xs x==n)=true->true=xs.any fun (x:Int)=>x==n)/\((g_Int xs x==n)=false->∃ (y:Nat),(q_I xs xs/\n=n/\wr_ ((zi x)+i_1)=zi y)/\pre y/\μ y<μ x))/\(decide (zi x<zi xs.length)=false->false=xs.any fun (x:Int)=>x==n))=_ by kernel_rfl) ?_
 delta i_0 i_1 wr_ g_Int zi t_I q_I
 have hx:xs.length<=9223372036854775807:=hl.1 _ (List.mem_singleton.2 rfl)
 simp only [zza,true_and,and_true,and_self,ne_eq,cI_app,cWrtO_app,cWrtS_app,cWrtO_1,cItemO_1,opr_ex,zcast,frz_nil,nil_map]
 refine ⟨fun i=>i<=xs.length/\∀ j,j<i->(xs.getD j 0==n)=false,⟨by omega,fun j hj=>absurd hj (Nat.not_lt_zero _)⟩,fun i=>xs.length-i,fun i hp=>?_⟩
 obtain ⟨h1,h2⟩:=hp
 refine ⟨fun hlt=>⟨by omega,hlt,fun e=>?_,fun e=>⟨i+1,wrapN (by omega),⟨by omega,below_succ h2 (by simpa using e)⟩,by simp only;omega⟩⟩,fun hge=>?_⟩
 ·exact (any_hit (p:=fun x=>x==n) (d:=0) (i:=i) (by omega) (by simpa using e)).symm
 ·exact (any_miss (p:=fun x=>x==n) (d:=0) fun j hj=>h2 j (by omega)).symm
def spec_l3Has_c:Con Tryz.prog:=con0 [.lend,.lend] fun b:List Int×Int=>spec_l3Has_ok (b.1) (b.2)
end Go.Proofs.AI
namespace Go.Proofs.AI
open Go.RowKit Go.Proofs
set_option linter.unusedVariables false
set_option linter.unusedSimpArgs false
set_option maxRecDepth 100000
def memB (xs:List ByteArray) (k:ByteArray):Bool:=xs.any fun x=>eqB x k
def noteB (n:Note):Bool:=inR n.kind 1 4&&inR n.tx 0 29&&decide (n.locks.length<=12)&&decide (n.writes.length<=12)&&n.locks.all keyB&&n.writes.all (fun w=>wrtB w&&memB n.locks w.key)&&(n.kind==1||n.locks.length+n.writes.length==0)
def diskB (d:Disk):Bool:=decide (d.notes.length<=120)&&inR d.safe 0 d.notes.length&&d.notes.all noteB
def smallN (n:Note):Prop:=n.locks.length<=1000/\n.writes.length<=1000/\∀ w∈n.writes,w.val.length<=1000
def smallD (d:Disk):Prop:=d.notes.length<=1000/\∀ n∈d.notes,smallN n
theorem spec_l2Has_ok (xs:List ByteArray) (n:ByteArray):FunOK Tryz.prog 160 2 [] [(0,k1 (sS xs)),(1,kS n)] (·=[(2,kB (memB xs n))]):=by
 refine fun_to (E:=⟨tab,ctOf [],18,[],[(0,[0,1]),(1,[0,1,5]),(2,[0,1,5,9]),(3,[0,1,5]),(4,[0,1,5,17]),(5,[4]),(6,[4])],[(0,⟨Nat,fun x=>[(0,(k1 (.sh 9 (typ ByteArray.empty eS xs)))),(1,(k1 (.s n))),(5,(k1 (.n .i64 (x:Int))))]⟩)],[],[],[]⟩) tab_ok mixed Tryz.func160 rfl Tryz.ntmps160 (rvs:=[.tmp 4]) Tryz.results160 rfl fun hl=>?_
 refine cast (show (∃ (pre:Nat->Prop),∃ (μ:Nat->Nat),∃ (x0:Nat),(q_S xs xs/\n=n/\i_0=zi x0)/\pre x0/\∀ (x:Nat),pre x->(decide (zi x<zi xs.length)=true->(i_0<=zi x/\zi x<zi xs.length)/\(((g_ByteArray xs x).toList==n.toList)=true->true=memB xs n)/\(((g_ByteArray xs x).toList==n.toList)=false->∃ (y:Nat),(q_S xs xs/\n=n/\wr_ ((zi x)+i_1)=zi y)/\pre y/\μ y<μ x))/\(decide (zi x<zi xs.length)=false->false=memB xs n))=_ by kernel_rfl) ?_
 delta i_0 i_1 wr_ zi t_S q_S g_ByteArray
 have hx:xs.length<=9223372036854775807:=hl.1 _ (List.mem_singleton.2 rfl)
 simp only [zza,true_and,and_true,and_self,ne_eq,cI_app,cWrtO_app,cWrtS_app,cWrtO_1,cItemO_1,opr_ex,zcast,frz_nil,nil_map]
 refine ⟨fun i=>i<=xs.length/\∀ j,j<i->eqB (xs.getD j ByteArray.empty) n=false,⟨by omega,fun j hj=>absurd hj (Nat.not_lt_zero _)⟩,fun i=>xs.length-i,fun i hp=>?_⟩
 obtain ⟨h1,h2⟩:=hp
 refine ⟨fun hlt=>⟨by omega,hlt,fun e=>?_,fun e=>⟨i+1,wrapN (by omega),⟨by omega,below_succ h2 (by simpa [eqB] using e)⟩,by simp only;omega⟩⟩,fun hge=>?_⟩
 ·exact (any_hit (p:=fun x=>eqB x n) (d:=ByteArray.empty) (i:=i) (by omega) (by simpa [eqB] using e)).symm
 ·exact (any_miss (p:=fun x=>eqB x n) (d:=ByteArray.empty) fun j hj=>h2 j (by omega)).symm
def spec_l2Has_c:Con Tryz.prog:=con0 [.lend,.lend] fun b:List ByteArray×ByteArray=>spec_l2Has_ok (b.1) (b.2)
theorem spec_NoteOk_ok (n:Note):FunOK Tryz.prog 117 1 [] [(0,kNoteS n)] (·=[(1,kB (noteB n))]):=by
 refine fun_to (E:=⟨tab,ctOf [spec_l1In_c,spec_l1Key_c,spec_WrtOk_c,spec_l2Has_c],80,[],[(0,[1]),(1,[1,26]),(2,[2]),(3,[1,3]),(4,[1,3,31]),(5,[1,3]),(6,[1,3,40]),(7,[2]),(8,[1,4]),(9,[1,4,45]),(10,[1,4]),(11,[1,4,66]),(12,[2]),(13,[2])],[(0,⟨Nat,fun x=>[(1,⟨.box,[.c (.n .i64 n.kind),.c (.n .i64 n.tx),.c (.sh 9 (typ ByteArray.empty eS n.locks)),.c (.sh 102 (typ dWrt eWrtS n.writes))],[]⟩),(3,(k1 (.n .i64 (x:Int))))]⟩),(2,⟨Nat,fun x=>[(1,⟨.box,[.c (.n .i64 n.kind),.c (.n .i64 n.tx),.c (.sh 9 (typ ByteArray.empty eS n.locks)),.c (.sh 102 (typ dWrt eWrtS n.writes))],[]⟩),(4,(k1 (.n .i64 (x:Int))))]⟩)],[],[(1,⟨Bool,fun x=>[(1,⟨.box,[.c (.n .i64 n.kind),.c (.n .i64 n.tx),.c (.sh 9 (typ ByteArray.empty eS n.locks)),.c (.sh 102 (typ dWrt eWrtS n.writes))],[]⟩),(26,(k1 (.b (x))))]⟩)],[]⟩) tab_ok mixed Tryz.func117 rfl Tryz.ntmps117 (rvs:=[.tmp 2]) Tryz.results117 rfl fun hl=>?_
 refine cast (show (let k_1:Prop:=n.kind=n.kind/\n.tx=n.tx/\q_S n.locks n.locks/\q_c n.writes n.writes;∃ (post:Bool->Prop),let k_2:Prop:=∃ (x:Bool),(k_1/\true=x)/\post x;(∃ (b:Int×Int×Int),(n.kind=b.1/\i_1=b.2.1/\i_4=b.2.2)/\((!inR b.1 b.2.1 b.2.2)=false->∃ (b:Int×Int×Int),(n.tx=b.1/\i_0=b.2.1/\i_29=b.2.2)/\((!inR b.1 b.2.1 b.2.2)=false->(decide ((zi n.locks.length)>i_12)=false->∃ (x:Bool),(k_1/\decide ((zi n.writes.length)>i_12)=x)/\post x)/\(decide ((zi n.locks.length)>i_12)=true->k_2))/\((!inR b.1 b.2.1 b.2.2)=true->k_2))/\((!inR b.1 b.2.1 b.2.2)=true->k_2))/\(∀ (x:Bool),post x->(x=true->false=noteB n)/\(x=false->∃ (pre:Nat->Prop),∃ (μ:Nat->Nat),∃ (x0:Nat),(k_1/\i_0=zi x0)/\pre x0/\(∀ (x:Nat),pre x->(decide (zi x<zi n.locks.length)=true->(i_0<=zi x/\zi x<zi n.locks.length)/\(∃ (b:ByteArray),g_ByteArray n.locks x=b/\((!keyB b)=true->false=noteB n)/\((!keyB b)=false->∃ (y:Nat),(k_1/\wr_ ((zi x)+i_1)=zi y)/\pre y/\μ y<μ x)))/\(decide (zi x<zi n.locks.length)=false->∃ (pre:Nat->Prop),∃ (μ:Nat->Nat),∃ (x0:Nat),(k_1/\i_0=zi x0)/\pre x0/\(∀ (x:Nat),let k_3:Prop:=i_0<=zi x/\zi x<zi n.writes.length;pre x->(decide (zi x<zi n.writes.length)=true->k_3/\(∃ (b:Wrt),((g_Wrt n.writes x).key=b.key/\(g_Wrt n.writes x).del=b.del/\q_I (g_Wrt n.writes x).val b.val)/\((!wrtB b)=false->k_3/\(∃ (b:y_11),(q_S n.locks b.1/\(g_Wrt n.writes x).key=b.2)/\((!memB b.1 b.2)=true->false=noteB n)/\((!memB b.1 b.2)=false->∃ (y:Nat),(k_1/\wr_ ((zi x)+i_1)=zi y)/\pre y/\μ y<μ x)))/\((!wrtB b)=true->false=noteB n)))/\(decide (zi x<zi n.writes.length)=false->((n.kind==i_1)=false->(wr_ ((zi n.locks.length)+(zi n.writes.length))==i_0)=noteB n)/\((n.kind==i_1)=true->true=noteB n))))))))=_ by kernel_rfl) ?_
 delta i_0 i_1 i_4 wr_ zi t_I q_I g_Wrt t_c q_c t_S q_S i_29 i_12 g_ByteArray y_11
 have hx:n.locks.length<=9223372036854775807:=hl.1 (.c (sS n.locks)) (by simp)
 have hy:n.writes.length<=9223372036854775807:=hl.1 (.c (sWrts n.writes)) (by simp)
 simp only [zza,zzb,true_and,and_true,and_self,ne_eq,cI_app,cWrtO_app,cWrtS_app,cWrtO_1,cItemO_1,opr_ex,zcast,frz_nil,nil_map,Option.getD_none,Option.getD_some]
 refine ⟨fun z=>z=!(inR n.kind 1 4&&inR n.tx 0 29&&decide (n.locks.length<=12)&&decide (n.writes.length<=12)),fun h1=>⟨fun h2=>⟨fun h3=>?_,fun h3=>?_⟩,fun h2=>?_⟩,fun h1=>?_,fun z hz=>?_⟩
 ·simp at h1 h2;rw [Bool.eq_iff_iff];simp [h1,h2];omega
 ·simp at h1 h2;rw [Bool.eq_iff_iff];simp [h1,h2];omega
 ·simp at h1 h2;simp [h2]
 ·simp at h1;simp [h1]
 subst hz
 refine ⟨fun h=>?_,fun h=>?_⟩
 ·have h:(inR n.kind 1 4&&inR n.tx 0 29&&decide (n.locks.length<=12)&&decide (n.writes.length<=12))=false:=by simpa only [Bool.not_eq_true'] using h
  simp only [noteB,h,Bool.false_and]
 have h:(inR n.kind 1 4&&inR n.tx 0 29&&decide (n.locks.length<=12)&&decide (n.writes.length<=12))=true:=by simpa only [Bool.not_eq_false'] using h
 have hn:noteB n=(n.locks.all keyB&&n.writes.all (fun w=>wrtB w&&memB n.locks w.key)&&(n.kind==1||n.locks.length+n.writes.length==0)):=by simp only [noteB,h,Bool.true_and]
 simp only [Bool.and_eq_true,decide_eq_true_eq] at h
 rw [hn]
 refine ⟨fun i=>i<=n.locks.length/\∀ j,j<i->keyB (n.locks.getD j ByteArray.empty)=true,⟨by omega,fun j hj=>absurd hj (Nat.not_lt_zero _)⟩,fun i=>n.locks.length-i,fun i hp=>?_⟩
 obtain ⟨h1,h2⟩:=hp
 refine ⟨fun hlt=>⟨by omega,hlt,fun e=>?_,fun e=>⟨i+1,wrapN (by omega),⟨by omega,below_succ h2 (by simpa using e)⟩,by simp only;omega⟩⟩,fun hge=>?_⟩
 ·rw [all_hit (p:=keyB) (i:=i) (d:=ByteArray.empty) (by omega) (by simpa using e)]<;>rfl
 have ha:n.locks.all keyB=true:=all_miss (d:=ByteArray.empty) fun j hj=>h2 j (by omega)
 rw [ha]
 refine ⟨fun i=>i<=n.writes.length/\∀ j,j<i->(wrtB (n.writes.getD j dWrt)&&memB n.locks (n.writes.getD j dWrt).key)=true,⟨by omega,fun j hj=>absurd hj (Nat.not_lt_zero _)⟩,fun i=>n.writes.length-i,fun i hp=>?_⟩
 obtain ⟨g1,g2⟩:=hp
 have bad:i<n.writes.length->(wrtB (n.writes.getD i dWrt)&&memB n.locks (n.writes.getD i dWrt).key)=false->n.writes.all (fun w=>wrtB w&&memB n.locks w.key)=false:=fun h1 h2=>all_hit (d:=dWrt) h1 h2
 refine ⟨fun hlt=>⟨by omega,hlt,fun e1=>⟨by omega,hlt,fun e2=>?_,fun e2=>⟨i+1,wrapN (by omega),⟨by omega,below_succ g2 ?_⟩,by simp only;omega⟩⟩,fun e1=>?_⟩,fun hge=>?_⟩
 ·rw [bad (by omega) (by simp at e1 e2;simp [e2])];rfl
 ·simp at e1 e2;simp [e1,e2]
 ·rw [bad (by omega) (by simp at e1;simp [e1])];rfl
 have hb:n.writes.all (fun w=>wrtB w&&memB n.locks w.key)=true:=all_miss (d:=dWrt) fun j hj=>g2 j (by omega)
 rw [hb,IntWalk.i64_in _ (by omega)]
 refine ⟨fun hk=>?_,fun hk=>?_⟩
 ·have:(n.kind==1)=false:=by simpa using hk
  rw [this,Bool.eq_iff_iff];simp
  constructor
  ·intro h;have:n.locks.length=0/\n.writes.length=0:=by omega
   exact ⟨List.length_eq_zero_iff.1 this.1,List.length_eq_zero_iff.1 this.2⟩
  ·rintro ⟨a,b⟩;rw [a,b]<;>rfl
 ·simp [hk]
def spec_NoteOk_c:Con Tryz.prog:=con0 [.lend] fun b:Note=>spec_NoteOk_ok b
theorem spec_DiskOk_ok (d:Disk):FunOK Tryz.prog 74 1 [] [(0,kDiskS d)] (·=[(1,kB (diskB d))]):=by
 refine fun_to (E:=⟨tab,ctOf [spec_l1In_c,spec_NoteOk_c],31,[],[(0,[1]),(1,[1,16]),(2,[2]),(3,[1,3]),(4,[1,3,21]),(5,[1,3]),(6,[1,3,30]),(7,[2]),(8,[2])],[(0,⟨Nat,fun x=>[(1,⟨.box,[.c (.sh 107 (typ dNote eNoteS d.notes)),.c (.n .i64 d.safe)],[]⟩),(3,(k1 (.n .i64 (x:Int))))]⟩)],[],[],[]⟩) tab_ok mixed Tryz.func74 rfl Tryz.ntmps74 (rvs:=[.tmp 2]) Tryz.results74 rfl fun hl=>?_
 refine cast (show (let k_1:Prop:=q_e d.notes d.notes/\d.safe=d.safe;(decide ((zi d.notes.length)>i_120)=false->∃ (b:Int×Int×Int),(d.safe=b.1/\i_0=b.2.1/\zi d.notes.length=b.2.2)/\((!inR b.1 b.2.1 b.2.2)=true->false=diskB d)/\((!inR b.1 b.2.1 b.2.2)=false->∃ (pre:Nat->Prop),∃ (μ:Nat->Nat),∃ (x0:Nat),(k_1/\i_0=zi x0)/\pre x0/\(∀ (x:Nat),pre x->(decide (zi x<zi d.notes.length)=true->(i_0<=zi x/\zi x<zi d.notes.length)/\(∃ (b:Note),((g_Note d.notes x).kind=b.kind/\(g_Note d.notes x).tx=b.tx/\q_S (g_Note d.notes x).locks b.locks/\q_c (g_Note d.notes x).writes b.writes)/\((!noteB b)=true->false=diskB d)/\((!noteB b)=false->∃ (y:Nat),(k_1/\wr_ ((zi x)+i_1)=zi y)/\pre y/\μ y<μ x)))/\(decide (zi x<zi d.notes.length)=false->true=diskB d))))/\(decide ((zi d.notes.length)>i_120)=true->false=diskB d))=_ by kernel_rfl) ?_
 delta i_0 i_1 wr_ zi t_c q_c t_S q_S g_Note t_e q_e i_120
 simp only [zza,zzb,true_and,and_true,and_self,ne_eq,cI_app,cWrtO_app,cWrtS_app,cWrtO_1,cItemO_1,opr_ex,zcast,frz_nil,nil_map,Option.getD_none,Option.getD_some]
 refine ⟨fun h0=>⟨fun h1=>?_,fun h1=>?_⟩,fun h0=>?_⟩
 ·simp at h1;simp [diskB,h1]
 ·simp at h1
  refine ⟨fun i=>i<=d.notes.length/\∀ j,j<i->noteB (d.notes.getD j dNote)=true,⟨by omega,fun j hj=>absurd hj (Nat.not_lt_zero _)⟩,fun i=>d.notes.length-i,fun i hp=>?_⟩
  obtain ⟨g1,g2⟩:=hp
  refine ⟨fun hlt=>⟨by omega,hlt,fun e=>?_,fun e=>⟨i+1,wrapN (by omega),⟨by omega,below_succ g2 (by simpa using e)⟩,by simp only;omega⟩⟩,fun hge=>?_⟩
  ·have:d.notes.all noteB=false:=all_hit (d:=dNote) (i:=i) (by omega) (by simpa using e)
   simp [diskB,this]
  ·have:d.notes.all noteB=true:=all_miss (d:=dNote) fun j hj=>g2 j (by omega)
   simp only [diskB,this,h1,Bool.and_true];simp;omega
 ·have:¬ d.notes.length<=120:=by omega
  simp [diskB,this]
def spec_DiskOk_c:Con Tryz.prog:=con0 [.lend] fun b:Disk=>spec_DiskOk_ok b
theorem spec_l2Note_ok (n:Note) (hpre:smallN n):FunOK Tryz.prog 125 1 [] [(0,kNoteS n)] (·=[(1,kNoteO n)]):=by
 refine fun_to (E:=⟨tab,ctOf [],39,[],[(0,[1,2,3,38]),(1,[1,2,3,38]),(2,[1,2,3,4,38]),(3,[1,2,3,4,19,38]),(4,[1,2,3,4,38]),(5,[1,2,3,4,5,38]),(6,[1,2,3,4,5,38]),(7,[1,2,3,4,38]),(8,[2,3,38])],[(0,⟨List Wrt×Nat,fun x=>[(1,⟨.box,[.c (.n .i64 n.kind),.c (.n .i64 n.tx),.c (.sh 9 (typ ByteArray.empty eS n.locks)),.c (.sh 102 (typ dWrt eWrtS n.writes))],[]⟩),(2,⟨.box,[.c (.n .i64 ((0:Int))),.c (.n .i64 ((0:Int))),.c (.ow 9 nilR),.c (.ow 102 nilR)],[]⟩),(3,⟨.box,[.c (.n .i64 n.kind),.c (.n .i64 n.tx),.c (.ow 9 (appR (raw []) (typ ByteArray.empty eS n.locks))),.c (oWrts (x.1))],[]⟩),(4,(k1 (.n .i64 (x.2:Int))))]⟩)],[(7,[(1000002,[])])],[],[]⟩) tab_ok mixed Tryz.func125 rfl Tryz.ntmps125 (rvs:=[.cell 2 107]) Tryz.results125 rfl fun hl=>?_
 refine cast (show (let k_3:Prop:=i_0=i_0/\i_0=i_0/\cnRs nilR=cnRs nilR/\cnRs nilR=cnRs nilR;let k_2:Prop:=n.kind=n.kind/\n.tx=n.tx/\q_S n.locks n.locks/\q_c n.writes n.writes;let k_1:Prop:=cnRs (appR (raw []) (typ ByteArray.empty eS n.locks))=cnRs (appR (raw []) (typ ByteArray.empty eS n.locks));(n_0+n.locks.length)*n_16<=n_140737488355328/\(∃ (pre:List Wrt×Nat->Prop),∃ (μ:List Wrt×Nat->Nat),∃ (x0:List Wrt×Nat),(k_2/\k_3/\(n.kind=n.kind/\n.tx=n.tx/\k_1/\cnRs nilR=t_d x0.1)/\i_0=zi x0.2)/\pre x0/\(∀ (x:List Wrt×Nat),pre x->(decide (zi x.2<zi n.writes.length)=true->(i_0<=zi x.2/\zi x.2<zi n.writes.length)/\(n_0+(g_Wrt n.writes x.2).val.length)*n_8<=n_140737488355328/\(x.1.length+n_1)*n_48<=n_140737488355328/\(∃ (y:List Wrt×Nat),(k_2/\k_3/\(n.kind=n.kind/\n.tx=n.tx/\k_1/\cnRs (appR (typ dWrt eWrtO x.1) (raw [[CV.s (g_Wrt n.writes x.2).key,CV.b (g_Wrt n.writes x.2).del,CV.ow n_3 (appR (raw []) (typ i_0 eI (g_Wrt n.writes x.2).val))]]))=t_d y.1)/\wr_ ((zi x.2)+i_1)=zi y.2)/\pre y/\μ y<μ x))/\(decide (zi x.2<zi n.writes.length)=false->n.kind=n.kind/\n.tx=n.tx/\cnRs (appR (raw []) (typ ByteArray.empty eS n.locks))=t_S n.locks/\q_d x.1 n.writes))))=_ by kernel_rfl) ?_
 delta i_0 i_1 wr_ zi n_0 n_8 n_140737488355328 n_1 n_3 g_Wrt t_c q_c t_S t_d n_16 q_S q_d n_48
 obtain ⟨p1,p2,p3⟩:=hpre
 simp only [zza,zzb,true_and,and_true,and_self,ne_eq,cI_app,cWrtO_app,cWrtS_app,cWrtO_1,cItemO_1,opr_ex,zcast,frz_nil,nil_map,Option.getD_none,Option.getD_some]
 refine ⟨by omega,fun x=>x.2<=n.writes.length/\x.1=n.writes.take x.2,⟨by omega,rfl⟩,fun x=>n.writes.length-x.2,fun a i hp=>?_⟩
 obtain ⟨h1,h2⟩:=hp
 simp only at h1 h2
 subst h2
 refine ⟨fun hlt=>?_,fun hge=>?_⟩
 ·have hm:n.writes.getD i dWrt∈n.writes:=by rw [getD_lt (by omega)];exact List.getElem_mem _
  have:=p3 _ hm
  refine ⟨by omega,hlt,by omega,by rw [List.length_take];omega,n.writes.take (i+1),?_,i+1,wrapN (by omega),⟨by simp only;omega,rfl⟩,by simp only;omega⟩
  rw [take_succ (d:=dWrt) (by omega)]
  simp
 ·have:i=n.writes.length:=by omega
  subst this
  simp
def spec_l2Note_c:Con Tryz.prog:=conP [.lend] fun (b:Note) h=>spec_l2Note_ok b h
theorem spec_l2Copy_ok (d:Disk) (hpre:smallD d):FunOK Tryz.prog 84 1 [] [(0,kDiskS d)] (·=[(1,kDiskO d)]):=by
 refine fun_to (E:=⟨tab,ctOf [spec_l2Note_c],27,[],[(0,[1,2,3,26]),(1,[1,2,3,26]),(2,[1,2,3,4,26]),(3,[1,2,3,4,12,26]),(4,[1,2,3,4,26]),(5,[1,2,3,4,26]),(6,[2,3,26])],[(0,⟨List Note×Nat,fun x=>[(1,⟨.box,[.c (.sh 107 (typ dNote eNoteS d.notes)),.c (.n .i64 d.safe)],[]⟩),(2,⟨.box,[.c (.ow 107 nilR),.c (.n .i64 ((0:Int)))],[]⟩),(3,⟨.box,[.c (oNotes (x.1)),.c (.n .i64 d.safe)],[]⟩),(4,(k1 (.n .i64 (x.2:Int))))]⟩)],[],[],[]⟩) tab_ok mixed Tryz.func84 rfl Tryz.ntmps84 (rvs:=[.cell 2 35]) Tryz.results84 rfl fun hl=>?_
 refine cast (show (let k_1:Prop:=q_e d.notes d.notes/\d.safe=d.safe;∃ (pre:List Note×Nat->Prop),∃ (μ:List Note×Nat->Nat),∃ (x0:List Note×Nat),(k_1/\(cnRs nilR=cnRs nilR/\i_0=i_0)/\(cnRs nilR=t_f x0.1/\d.safe=d.safe)/\i_0=zi x0.2)/\pre x0/\(∀ (x:List Note×Nat),pre x->(decide (zi x.2<zi d.notes.length)=true->(i_0<=zi x.2/\zi x.2<zi d.notes.length)/\(∃ (b:Note),((g_Note d.notes x.2).kind=b.kind/\(g_Note d.notes x.2).tx=b.tx/\q_S (g_Note d.notes x.2).locks b.locks/\q_c (g_Note d.notes x.2).writes b.writes)/\smallN b/\(x.1.length+n_1)*n_64<=n_140737488355328/\(∃ (y:List Note×Nat),(k_1/\(cnRs nilR=cnRs nilR/\i_0=i_0)/\(cnRs (appR (typ dNote eNoteO x.1) (raw [[cn_ b.kind,cn_ b.tx,CV.ow n_9 (typ ByteArray.empty eS b.locks),CV.ow n_102 (typ dWrt eWrtO b.writes)]]))=t_f y.1/\d.safe=d.safe)/\wr_ ((zi x.2)+i_1)=zi y.2)/\pre y/\μ y<μ x)))/\(decide (zi x.2<zi d.notes.length)=false->q_f x.1 d.notes/\d.safe=d.safe)))=_ by kernel_rfl) ?_
 delta i_0 i_1 wr_ zi n_140737488355328 n_1 t_c q_c cn_ t_S q_S g_Note t_e q_e t_f q_f n_64 n_9 n_102
 obtain ⟨p1,p2⟩:=hpre
 simp only [zza,zzb,true_and,and_true,and_self,ne_eq,cI_app,cWrtO_app,cWrtS_app,cWrtO_1,cItemO_1,opr_ex,zcast,frz_nil,nil_map,Option.getD_none,Option.getD_some]
 refine ⟨fun x=>x.2<=d.notes.length/\x.1=d.notes.take x.2,⟨by omega,rfl⟩,fun x=>d.notes.length-x.2,fun a i hp=>?_⟩
 obtain ⟨h1,h2⟩:=hp
 simp only at h1 h2
 subst h2
 refine ⟨fun hlt=>?_,fun hge=>?_⟩
 ·have hm:d.notes.getD i dNote∈d.notes:=by rw [getD_lt (by omega)];exact List.getElem_mem _
  refine ⟨by omega,hlt,p2 _ hm,by rw [List.length_take];omega,d.notes.take (i+1),?_,i+1,wrapN (by omega),⟨by simp only;omega,rfl⟩,by simp only;omega⟩
  rw [take_succ (d:=dNote) (by omega)]
  simp
 ·have:i=d.notes.length:=by omega
  subst this
  simp
def spec_l2Copy_c:Con Tryz.prog:=conP [.lend] fun (b:Disk) h=>spec_l2Copy_ok b h
end Go.Proofs.AI
namespace Go.Proofs.AI
open Go.RowKit Go.Proofs
set_option linter.unusedVariables false
set_option linter.unusedSimpArgs false
set_option maxRecDepth 100000
def addD (d:Disk) (n:Note) (safe:Bool):Disk×Bool :=
 if (diskB d&&noteB n)=true then (if d.notes.length=120 then (d,false) else (⟨d.notes++[n],if safe=true then (d.notes.length:Int)+1 else d.safe⟩,true)) else (⟨[],0⟩,false)
def ofS (tx:Int) (h:Int) (n:Note):Int:=if n.tx=tx/\n.kind≠4 then n.kind else h
def ofN (ns:List Note) (tx:Int):Int:=ns.foldl (ofS tx) 0
def rdyP (tx:Int) (n:Note):Bool:=n.kind==1&&n.tx==tx
def readyK (ns:List Note) (tx:Int):Nat->Option Note
 | 0=>none
 | k+1=>if rdyP tx (ns.getD k dNote)=true then some (ns.getD k dNote) else readyK ns tx k
def readyN (ns:List Note) (tx:Int):Option Note:=readyK ns tx ns.length
def foldK (ns:List Note):Nat->Sto
 | 0=>[]
 | k+1=>if (ns.getD k dNote).kind=2 then (match readyN (ns.take k) (ns.getD k dNote).tx with
  | some m=>doS (foldK ns k) m.writes
  | none=>foldK ns k) else foldK ns k
def foldD (d:Disk):Sto:=if diskB d=true then foldK d.notes d.notes.length else []
def openK (ns:List Note):Nat->List Int
 | 0=>[]
 | k+1=>if (ns.getD k dNote).kind=1/\ofN (ns.drop k) (ns.getD k dNote).tx=1/\((openK ns k).any fun x=>x==(ns.getD k dNote).tx)=false then openK ns k++[(ns.getD k dNote).tx] else openK ns k
def openD (d:Disk):List Int:=if diskB d=true then openK d.notes d.notes.length else []
def addL (out:List ByteArray) (l:List ByteArray):List ByteArray:=l.foldl (fun o k=>if memB o k=true then o else o++[k]) out
def lockK (ns:List Note):Nat->List ByteArray
 | 0=>[]
 | k+1=>if (ns.getD k dNote).kind=1/\ofN (ns.drop k) (ns.getD k dNote).tx=1 then addL (lockK ns k) (ns.getD k dNote).locks else lockK ns k
def lockD (d:Disk):List ByteArray:=if diskB d=true then lockK d.notes d.notes.length else []
def fallD (d:Disk) (keep:Int):Disk:=if diskB d=true then ⟨d.notes.take (d.safe+max 0 (min keep (d.notes.length-d.safe))).toNat,d.safe+max 0 (min keep (d.notes.length-d.safe))⟩ else ⟨[],0⟩
theorem opr_dz (o:Opr):(o.kind==0&&(o.who==0&&(o.inn==0&&(o.code==0&&(o.sec==0&&(o.fam==0&&o.gen==0))))))=decide (o=dOpr):=by
 rw [Bool.eq_iff_iff]
 simp only [Bool.and_eq_true,beq_iff_eq,decide_eq_true_eq]
 exact ⟨fun h=>Opr_ext h.1 h.2.1 h.2.2.1 h.2.2.2.1 h.2.2.2.2.1 h.2.2.2.2.2.1 h.2.2.2.2.2.2,fun h=>by subst h;exact ⟨rfl,rfl,rfl,rfl,rfl,rfl,rfl⟩⟩
theorem openK_len (ns:List Note):∀ k,(openK ns k).length<=k
 | 0=>Nat.le_refl _
 | k+1=>by
  have:=openK_len ns k
  rw [openK];split
  ·rw [List.length_append];simp;omega
  ·omega
theorem addL_len:∀ (l out:List ByteArray),(addL out l).length<=out.length+l.length
 | [],out=>by simp [addL]
 | k::l,out=>by
  simp only [addL,List.foldl_cons,List.length_cons]
  split
  ·have:=addL_len l out;simp only [addL] at this;omega
  ·have:=addL_len l (out++[k]);simp only [addL,List.length_append,List.length_singleton] at this;omega
theorem lockK_len (ns:List Note) (h:∀ n∈ns,n.locks.length<=12):∀ k,(lockK ns k).length<=12*k
 | 0=>Nat.le_refl _
 | k+1=>by
  have:=lockK_len ns h k
  have h2:=addL_len (ns.getD k dNote).locks (lockK ns k)
  have h3:(ns.getD k dNote).locks.length<=12:=by
   rcases Nat.lt_or_ge k ns.length with hk | hk
   ·rw [getD_lt hk];exact h _ (List.getElem_mem hk)
   ·rw [List.getD_eq_getElem?_getD,List.getElem?_eq_none hk];simp [dNote]
  rw [lockK];split<;>omega
theorem noteB_small {n:Note} (h:noteB n=true):smallN n/\n.locks.length<=12/\n.writes.length<=12:=by
 simp only [noteB,Bool.and_eq_true,decide_eq_true_eq,List.all_eq_true] at h
 refine ⟨⟨by omega,by omega,fun w hw=>?_⟩,by omega,by omega⟩
 have:=wrtB_len (h.1.2 w hw).1
 omega
theorem diskB_small {d:Disk} (h:diskB d=true):smallD d/\d.notes.length<=120/\(0<=d.safe/\d.safe<=d.notes.length)/\∀ n∈d.notes,noteB n=true:=by
 simp only [diskB,Bool.and_eq_true,decide_eq_true_eq,List.all_eq_true] at h
 exact ⟨⟨by omega,fun n hn=>(noteB_small (h.2 n hn)).1⟩,h.1.1,by simpa [inR] using h.1.2,h.2⟩
def msgB (m:Msg):Bool:=inR m.tx 0 29&&(if m.kind=1 then m.frm==0&&inR m.to 1 3&&opOk m.op else decide (m.op=dOpr)&&(if m.kind=2∨m.kind=3 then m.frm==0&&inR m.to 1 3 else inR m.kind 4 7&&m.to==0&&inR m.frm 1 3))
theorem cut_typ {α:Type} {d:α} {g:α->List CV} (xs:List α) {lo hi:Nat} (h:hi<=xs.length):cnRs (cutR (typ d g xs) lo hi)=cnRs (typ d g ((xs.take hi).drop lo)):=by
 rw [cnRs_cut _ h,cnRs_typ,cnRs_typ,List.map_drop,List.map_take]
theorem spec_DiskAdd_ok (d:Disk) (n:Note) (safe:Bool):FunOK Tryz.prog 121 3 [] [(0,kDiskS d),(1,kNoteS n),(2,kB safe)] (·=[(3,⟨.tup [(true,2),(false,1)],[.c (oNotes (addD d n safe).1.notes),.c (.n .i64 (addD d n safe).1.safe),.c (.b (addD d n safe).2)],[]⟩)]):=by
 refine fun_to (E:=⟨tab,ctOf [spec_DiskOk_c,spec_l2Copy_c,spec_NoteOk_c,spec_l2Note_c],38,[],[(0,[2,3,4,6,8,17,24,37]),(1,[2,3,4,6,8,16,17,24,37]),(2,[6,7,8,17,24,37]),(3,[2,4,6,8,17,24,37]),(4,[2,4,6,8,17,23,24,37]),(5,[6,7,8,17,24,37]),(6,[2,6,8,17,24,37]),(7,[6,8,17,24,32,37]),(8,[6,8,17,24,37]),(9,[6,7,8,17,24,37])],[],[],[(1,⟨Bool,fun x=>[(2,(k1 (.b safe))),(3,⟨.box,[.c (.sh 107 (typ dNote eNoteS d.notes)),.c (.n .i64 d.safe)],[]⟩),(4,⟨.box,[.c (.n .i64 n.kind),.c (.n .i64 n.tx),.c (.sh 9 (typ ByteArray.empty eS n.locks)),.c (.sh 102 (typ dWrt eWrtS n.writes))],[]⟩),(6,⟨.box,[.c (.ow 107 nilR),.c (.n .i64 ((0:Int)))],[]⟩),(16,(k1 (.b (x))))]⟩)],[]⟩) tab_ok mixed Tryz.func121 rfl Tryz.ntmps121 (rvs:=[.cell 6 35,.tmp 7]) Tryz.results121 rfl fun hl=>?_
 refine cast (show (let k_2:Prop:=q_e d.notes d.notes/\d.safe=d.safe;let k_1:Prop:=n.kind=n.kind/\n.tx=n.tx/\q_S n.locks n.locks/\q_c n.writes n.writes;∃ (post:Bool->Prop),(∃ (b:Disk),(q_e d.notes b.notes/\d.safe=b.safe)/\((!diskB b)=false->∃ (b:Note),(n.kind=b.kind/\n.tx=b.tx/\q_S n.locks b.locks/\q_c n.writes b.writes)/\(∃ (x:Bool),(safe=safe/\k_2/\k_1/\(cnRs nilR=cnRs nilR/\i_0=i_0)/\(!noteB b)=x)/\post x))/\((!diskB b)=true->∃ (x:Bool),(safe=safe/\k_2/\k_1/\(cnRs nilR=cnRs nilR/\i_0=i_0)/\true=x)/\post x))/\(∀ (x:Bool),post x->(x=true->cnRs nilR=t_f (addD d n safe).1.notes/\i_0=(addD d n safe).1.safe/\false=(addD d n safe).2)/\(x=false->∃ (b:Disk),(q_e d.notes b.notes/\d.safe=b.safe)/\smallD b/\((zi b.notes.length==i_120)=true->q_f b.notes (addD d n safe).1.notes/\b.safe=(addD d n safe).1.safe/\false=(addD d n safe).2)/\((zi b.notes.length==i_120)=false->∃ (b_1:Note),let k_3:Prop:=cnRs (appR (typ dNote eNoteO b.notes) (raw [[cn_ b_1.kind,cn_ b_1.tx,CV.ow n_9 (typ ByteArray.empty eS b_1.locks),CV.ow n_102 (typ dWrt eWrtO b_1.writes)]]))=t_f (addD d n safe).1.notes;(n.kind=b_1.kind/\n.tx=b_1.tx/\q_S n.locks b_1.locks/\q_c n.writes b_1.writes)/\smallN b_1/\(b.notes.length+n_1)*n_64<=n_140737488355328/\(safe=true->k_3/\(zi (b.notes.length+n_1))=(addD d n safe).1.safe/\true=(addD d n safe).2)/\(safe=false->k_3/\b.safe=(addD d n safe).1.safe/\true=(addD d n safe).2)))))=_ by kernel_rfl) ?_
 delta i_0 zi n_140737488355328 n_1 t_c q_c cn_ t_S q_S t_e q_e i_120 t_f q_f n_64 n_9 n_102
 simp only [zza,zzb,true_and,and_true,and_self,ne_eq,cI_app,cWrtO_app,cWrtS_app,cWrtO_1,cItemO_1,opr_ex,zcast,frz_nil,nil_map,Option.getD_none,Option.getD_some]
 refine ⟨fun z=>z=!(diskB d&&noteB n),fun h=>by simp at h;simp [h],fun h=>by simp at h;simp [h],fun z hz=>?_⟩
 subst hz
 refine ⟨fun h=>?_,fun h=>?_⟩
 ·have h:(diskB d&&noteB n)=false:=by simpa only [Bool.not_eq_true'] using h
  simp [addD,h]
 have h:(diskB d&&noteB n)=true:=by simpa only [Bool.not_eq_false'] using h
 simp only [addD,h,if_true]
 simp only [Bool.and_eq_true] at h
 obtain ⟨g1,g2,g3,g4⟩:=diskB_small h.1
 refine ⟨g1,fun h1=>?_,fun h1=>⟨(noteB_small h.2).1,by omega,fun hs=>?_,fun hs=>?_⟩⟩
 ·have:d.notes.length=120:=by omega
  simp [this]
 ·have:¬ d.notes.length=120:=by omega
  simp [this,hs]
 ·have:¬ d.notes.length=120:=by omega
  simp [this,hs]
def spec_DiskAdd_c:Con Tryz.prog:=con0 [.lend,.lend,.lend] fun b:Disk×Note×Bool=>spec_DiskAdd_ok (b.1) (b.2.1) (b.2.2)
theorem spec_l2Of_ok (ns:List Note) (tx:Int):FunOK Tryz.prog 76 2 [] [(0,k1 (sNotes ns)),(1,kI tx)] (·=[(2,kI (ofN ns tx))]):=by
 refine fun_to (E:=⟨tab,ctOf [],34,[],[(0,[0,1]),(1,[0,1,5]),(2,[0,1,5,6]),(3,[0,1,5,6,10]),(4,[0,1,5,6]),(5,[0,1,5,6,27]),(6,[0,1,5,6]),(7,[4])],[(0,⟨Int×Nat,fun x=>[(0,(k1 (.sh 107 (typ dNote eNoteS ns)))),(1,(k1 (.n .i64 tx))),(5,(k1 (.n .i64 (x.1)))),(6,(k1 (.n .i64 (x.2:Int))))]⟩)],[],[],[]⟩) tab_ok mixed Tryz.func76 rfl Tryz.ntmps76 (rvs:=[.tmp 4]) Tryz.results76 rfl fun hl=>?_
 refine cast (show (∃ (pre:Int×Nat->Prop),∃ (μ:Int×Nat->Nat),∃ (x0:Int×Nat),(q_e ns ns/\tx=tx/\i_0=x0.1/\i_0=zi x0.2)/\pre x0/\(∀ (x:Int×Nat),let k_2:Prop:=i_0<=zi x.2/\zi x.2<zi ns.length;let k_1:Prop:=∃ (y:Int×Nat),(q_e ns ns/\tx=tx/\x.1=y.1/\wr_ ((zi x.2)+i_1)=zi y.2)/\pre y/\μ y<μ x;pre x->(decide (zi x.2<zi ns.length)=true->k_2/\(((g_Note ns x.2).tx==tx)=true->k_2/\(((g_Note ns x.2).kind != i_4)=true->k_2/\(∃ (y:Int×Nat),(q_e ns ns/\tx=tx/\(g_Note ns x.2).kind=y.1/\wr_ ((zi x.2)+i_1)=zi y.2)/\pre y/\μ y<μ x))/\(((g_Note ns x.2).kind != i_4)=false->k_1))/\(((g_Note ns x.2).tx==tx)=false->k_1))/\(decide (zi x.2<zi ns.length)=false->x.1=ofN ns tx)))=_ by kernel_rfl) ?_
 delta i_0 i_1 i_4 wr_ zi g_Note t_e q_e
 have hx:ns.length<=9223372036854775807:=hl.1 (.c (sNotes ns)) (by simp)
 simp only [zza,zzb,true_and,and_true,and_self,ne_eq,cI_app,cWrtO_app,cWrtS_app,cWrtO_1,cItemO_1,opr_ex,zcast,frz_nil,nil_map,Option.getD_none,Option.getD_some]
 refine ⟨fun x=>x.2<=ns.length/\x.1=(ns.take x.2).foldl (ofS tx) 0,⟨by omega,rfl⟩,fun x=>ns.length-x.2,fun a i hp=>?_⟩
 obtain ⟨h1,h2⟩:=hp
 simp only at h1 h2
 have go:i<ns.length->∀ v,v=ofS tx a (ns.getD i dNote)->∃ x:Nat,IntKind.i64.wrap ((i:Int)+1)=(x:Int)/\(x<=ns.length/\v=(ns.take x).foldl (ofS tx) 0)/\ns.length-x<ns.length-i:=fun hlt v hv =>
  ⟨i+1,wrapN (by omega),⟨by omega,by rw [fold_succ (d:=dNote) hlt,<- h2];exact hv⟩,by omega⟩
 refine ⟨fun hlt=>⟨by omega,hlt,fun e1=>⟨by omega,hlt,fun e2=>⟨by omega,hlt,go (by omega) _ (by rw [ofS,if_pos ⟨e1,e2⟩])⟩,fun e2=>go (by omega) _ (by rw [ofS,if_neg (fun h=>h.2 (by simpa using e2))])⟩,fun e1=>go (by omega) _ (by rw [ofS,if_neg (fun h=>e1 h.1)])⟩,fun hge=>?_⟩
 have:i=ns.length:=by omega
 rw [h2,this,List.take_length]<;>rfl
def spec_l2Of_c:Con Tryz.prog:=con0 [.lend,.lend] fun b:List Note×Int=>spec_l2Of_ok (b.1) (b.2)
theorem spec_l2Is_ok (xs:List Int) (n:Int):FunOK Tryz.prog 227 2 [] [(0,k1 (sI xs)),(1,kI n)] (·=[(2,kB (xs.any fun x=>x==n))]):=by
 refine fun_to (E:=⟨tab,ctOf [],18,[],[(0,[0,1]),(1,[0,1,5]),(2,[0,1,5,9]),(3,[0,1,5]),(4,[0,1,5,17]),(5,[4]),(6,[4])],[(0,⟨Nat,fun x=>[(0,(k1 (.sh 3 (typ (0:Int) eI xs)))),(1,(k1 (.n .i64 n))),(5,(k1 (.n .i64 (x:Int))))]⟩)],[],[],[]⟩) tab_ok mixed Tryz.func227 rfl Tryz.ntmps227 (rvs:=[.tmp 4]) Tryz.results227 rfl fun hl=>?_
 refine cast (show (∃ (pre:Nat->Prop),∃ (μ:Nat->Nat),∃ (x0:Nat),(q_I xs xs/\n=n/\i_0=zi x0)/\pre x0/\∀ (x:Nat),pre x->(decide (zi x<zi xs.length)=true->(i_0<=zi x/\zi x<zi xs.length)/\((g_Int xs x==n)=true->true=xs.any fun (x:Int)=>x==n)/\((g_Int xs x==n)=false->∃ (y:Nat),(q_I xs xs/\n=n/\wr_ ((zi x)+i_1)=zi y)/\pre y/\μ y<μ x))/\(decide (zi x<zi xs.length)=false->false=xs.any fun (x:Int)=>x==n))=_ by kernel_rfl) ?_
 delta i_0 i_1 wr_ g_Int zi t_I q_I
 have hx:xs.length<=9223372036854775807:=hl.1 _ (List.mem_singleton.2 rfl)
 simp only [zza,true_and,and_true,and_self,ne_eq,cI_app,cWrtO_app,cWrtS_app,cWrtO_1,cItemO_1,opr_ex,zcast,frz_nil,nil_map]
 refine ⟨fun i=>i<=xs.length/\∀ j,j<i->(xs.getD j 0==n)=false,⟨by omega,fun j hj=>absurd hj (Nat.not_lt_zero _)⟩,fun i=>xs.length-i,fun i hp=>?_⟩
 obtain ⟨h1,h2⟩:=hp
 refine ⟨fun hlt=>⟨by omega,hlt,fun e=>?_,fun e=>⟨i+1,wrapN (by omega),⟨by omega,below_succ h2 (by simpa using e)⟩,by simp only;omega⟩⟩,fun hge=>?_⟩
 ·exact (any_hit (p:=fun x=>x==n) (d:=0) (i:=i) (by omega) (by simpa using e)).symm
 ·exact (any_miss (p:=fun x=>x==n) (d:=0) fun j hj=>h2 j (by omega)).symm
def spec_l2Is_c:Con Tryz.prog:=con0 [.lend,.lend] fun b:List Int×Int=>spec_l2Is_ok (b.1) (b.2)
theorem spec_DiskOpen_ok (d:Disk):FunOK Tryz.prog 218 1 [] [(0,kDiskS d)] (·=[(1,k1 (oI (openD d)))]):=by
 refine fun_to (E:=⟨tab,ctOf [spec_DiskOk_c,spec_l2Of_c,spec_l2Is_c],49,[],[(0,[1,3,6,10,43,45,46,47,48]),(1,[1,3,6,10,43,45,46,47,48]),(2,[1,3,6,9,10,43,45,46,47,48]),(3,[2,3,6,10,43,45,46,47,48]),(4,[1,3,4,6,10,43,45,46,47]),(5,[1,3,4,6,10,15,43,45,46,47]),(6,[1,3,4,6,10,43,45,46,47]),(7,[1,3,4,5,6,10,43,45,46,47]),(8,[1,3,4,5,6,10,42,43,45,46,47]),(9,[1,3,4,6,10,43,45,46,47]),(10,[2,3,6,10,43,45,46,47,48])],[(0,⟨List Int×Nat,fun x=>[(1,⟨.box,[.c (.sh 107 (typ dNote eNoteS d.notes)),.c (.n .i64 d.safe)],[]⟩),(3,(k1 (oI (x.1)))),(4,(k1 (.n .i64 (x.2:Int)))),(6,(k1 .any))]⟩)],[(3,[(1000000,[])]),(9,[(1000000,[])]),(10,[(1000000,[])])],[],[]⟩) tab_ok mixed Tryz.func218 rfl Tryz.ntmps218 (rvs:=[.tmp 2]) Tryz.results218 rfl fun hl=>?_
 refine cast (show (let k_1:Prop:=q_e d.notes d.notes/\d.safe=d.safe;∃ (b:Disk),(q_e d.notes b.notes/\d.safe=b.safe)/\((!diskB b)=true->cnRs (raw [])=t_I (openD d))/\((!diskB b)=false->∃ (pre:List Int×Nat->Prop),∃ (μ:List Int×Nat->Nat),∃ (x0:List Int×Nat),(k_1/\cnRs (raw [])=t_I x0.1/\i_0=zi x0.2/\True)/\pre x0/\(∀ (x:List Int×Nat),let k_2:Prop:=∃ (y:List Int×Nat),(k_1/\q_I x.1 y.1/\wr_ ((zi x.2)+i_1)=zi y.2/\True)/\pre y/\μ y<μ x;pre x->(decide (zi x.2<zi d.notes.length)=true->(i_0<=zi x.2/\zi x.2<zi d.notes.length)/\(((g_Note d.notes x.2).kind==i_1)=true->(i_0<=(some (zi x.2)).getD i_0/\(some (zi x.2)).getD i_0<=none.getD (zi d.notes.length)/\none.getD (zi d.notes.length)<=zi d.notes.length)/\(∃ (b:List Note×Int),(cnRs (cutR (typ dNote eNoteS d.notes) ((some (zi x.2)).getD i_0).toNat (none.getD (zi d.notes.length)).toNat)=t_e b.1/\(g_Note d.notes x.2).tx=b.2)/\((ofN b.1 b.2==i_1)=true->∃ (b:List Int×Int),(cnRs (frozenRs (typ i_0 eI x.1))=t_I b.1/\(g_Note d.notes x.2).tx=b.2)/\((!b.1.any fun (x:Int)=>x==b.2)=true->(x.1.length+n_1)*n_8<=n_140737488355328/\(∃ (y:List Int×Nat),(k_1/\cnRs (appR (typ i_0 eI x.1) (typ i_0 (fun (y:Int)=>[cn_ y]) [(g_Note d.notes x.2).tx]))=t_I y.1/\wr_ ((zi x.2)+i_1)=zi y.2/\True)/\pre y/\μ y<μ x))/\((!b.1.any fun (x:Int)=>x==b.2)=false->k_2))/\((ofN b.1 b.2==i_1)=false->k_2)))/\(((g_Note d.notes x.2).kind==i_1)=false->k_2))/\(decide (zi x.2<zi d.notes.length)=false->q_I x.1 (openD d)))))=_ by kernel_rfl) ?_
 delta i_0 i_1 wr_ zi t_I q_I n_8 n_140737488355328 n_1 cn_ g_Note t_e q_e
 simp only [zza,zzb,true_and,and_true,and_self,ne_eq,cI_app,cWrtO_app,cWrtS_app,cWrtO_1,cItemO_1,opr_ex,zcast,frz_nil,nil_map,Option.getD_none,Option.getD_some]
 refine ⟨fun h=>?_,fun h=>?_⟩
 ·simp at h;simp [openD,h]
 simp at h
 obtain ⟨g1,g2,g3,g4⟩:=diskB_small h
 simp only [openD,h,if_true]
 refine ⟨fun x=>x.2<=d.notes.length/\x.1=openK d.notes x.2,⟨by omega,rfl⟩,fun x=>d.notes.length-x.2,fun a i hp=>?_⟩
 obtain ⟨h1,h2⟩:=hp
 simp only at h1 h2
 have hl2:=openK_len d.notes i
 rw [<- h2] at hl2
 have go:i<d.notes.length->∀ v,v=openK d.notes (i+1)->∃ x:Nat,IntKind.i64.wrap ((i:Int)+1)=(x:Int)/\(x<=d.notes.length/\v=openK d.notes x)/\d.notes.length-x<d.notes.length-i:=fun hlt v hv =>
  ⟨i+1,wrapN (by omega),⟨by omega,hv⟩,by omega⟩
 refine ⟨fun hlt=>⟨by omega,hlt,fun e1=>⟨by omega,by omega,by omega,d.notes.drop i,by rw [cut_typ _ (Nat.le_refl _),List.take_length,cNoteS],fun e2=>⟨fun e3=>⟨by omega,go (by omega) _ ?_⟩,fun e3=>go (by omega) _ ?_⟩,fun e2=>go (by omega) _ ?_⟩,fun e1=>go (by omega) _ ?_⟩,fun hge=>?_⟩
 ·have e3:(a.any fun x=>x==(d.notes.getD i dNote).tx)=false:=by simpa only [Bool.not_eq_true'] using e3
  rw [openK,if_pos ⟨e1,e2,h2▸e3⟩,h2]<;>rfl
 ·have e3:(a.any fun x=>x==(d.notes.getD i dNote).tx)=true:=by simpa only [Bool.not_eq_false'] using e3
  rw [openK,if_neg (fun h=>by rw [<- h2,e3] at h;exact absurd h.2.2 (by simp)),h2]
 ·rw [openK,if_neg (fun h=>e2 h.2.1),h2]
 ·rw [openK,if_neg (fun h=>e1 h.1),h2]
 ·have:i=d.notes.length:=by omega
  rw [h2,this]
def spec_DiskOpen_c:Con Tryz.prog:=con0 [.lend] fun b:Disk=>spec_DiskOpen_ok b
theorem spec_DiskLocks_ok (d:Disk):FunOK Tryz.prog 236 1 [] [(0,kDiskS d)] (·=[(1,k1 (oS (lockD d)))]):=by
 refine fun_to (E:=⟨tab,ctOf [spec_DiskOk_c,spec_l2Of_c,spec_l2Has_c],61,[],[(0,[1,3,7,11,52,57,58,59,60]),(1,[1,3,7,11,52,57,58,59,60]),(2,[1,3,7,10,11,52,57,58,59,60]),(3,[2,3,7,11,52,57,58,59,60]),(4,[1,3,4,7,11,52,57,58,59]),(5,[1,3,4,7,11,16,52,57,58,59]),(6,[1,3,4,7,11,52,57,58,59]),(7,[1,3,4,5,7,11,52,57,58,59]),(8,[1,3,4,5,7,11,36,52,57,58,59]),(9,[1,3,4,5,6,7,11,52,57,58,59]),(10,[1,3,4,5,6,7,11,41,52,57,58,59]),(11,[1,3,4,5,6,7,11,52,57,58,59]),(12,[1,3,4,5,6,7,11,51,52,57,58,59]),(13,[1,3,4,5,6,7,11,52,57,58,59]),(14,[2,3,7,11,52,57,58,59,60])],[(0,⟨List ByteArray×Nat,fun x=>[(1,⟨.box,[.c (.sh 107 (typ dNote eNoteS d.notes)),.c (.n .i64 d.safe)],[]⟩),(3,(k1 (oS (x.1)))),(4,(k1 (.n .i64 (x.2:Int)))),(7,(k1 .any))]⟩),(2,⟨List ByteArray×Nat×Int×Int×List ByteArray×List Wrt×Nat,fun x=>[(1,⟨.box,[.c (.sh 107 (typ dNote eNoteS d.notes)),.c (.n .i64 d.safe)],[]⟩),(3,(k1 (oS (x.1)))),(4,(k1 (.n .i64 (x.2.1:Int)))),(5,⟨.box,[.c (.n .i64 (x.2.2.1)),.c (.n .i64 (x.2.2.2.1)),.c (sS (x.2.2.2.2.1)),.c (sWrts (x.2.2.2.2.2.1))],[]⟩),(6,(k1 (.n .i64 (x.2.2.2.2.2.2:Int)))),(7,(k1 .any))]⟩)],[(3,[(1000000,[])]),(13,[(1000000,[])]),(14,[(1000000,[])])],[],[]⟩) tab_ok mixed Tryz.func236 rfl Tryz.ntmps236 (rvs:=[.tmp 2]) Tryz.results236 rfl fun hl=>?_
 refine cast (show (let k_1:Prop:=q_e d.notes d.notes/\d.safe=d.safe;∃ (b:Disk),(q_e d.notes b.notes/\d.safe=b.safe)/\((!diskB b)=true->cnRs (raw [])=t_S (lockD d))/\((!diskB b)=false->∃ (pre:y_12->Prop),∃ (μ:y_12->Nat),∃ (x0:y_12),(k_1/\cnRs (raw [])=t_S x0.1/\i_0=zi x0.2/\True)/\pre x0/\(∀ (x:y_12),let k_2:Prop:=∃ (y:y_12),(k_1/\q_S x.1 y.1/\wr_ ((zi x.2)+i_1)=zi y.2/\True)/\pre y/\μ y<μ x;pre x->(decide (zi x.2<zi d.notes.length)=true->(i_0<=zi x.2/\zi x.2<zi d.notes.length)/\(((g_Note d.notes x.2).kind==i_1)=true->(i_0<=(some (zi x.2)).getD i_0/\(some (zi x.2)).getD i_0<=none.getD (zi d.notes.length)/\none.getD (zi d.notes.length)<=zi d.notes.length)/\(∃ (b:List Note×Int),(cnRs (cutR (typ dNote eNoteS d.notes) ((some (zi x.2)).getD i_0).toNat (none.getD (zi d.notes.length)).toNat)=t_e b.1/\(g_Note d.notes x.2).tx=b.2)/\((ofN b.1 b.2==i_1)=true->∃ (pre_1:y_13->Prop),∃ (μ_1:y_13->Nat),∃ (x0:y_13),(k_1/\q_S x.1 x0.1/\zi x.2=zi x0.2.1/\((g_Note d.notes x.2).kind=x0.2.2.1/\(g_Note d.notes x.2).tx=x0.2.2.2.1/\q_S (g_Note d.notes x.2).locks x0.2.2.2.2.1/\q_c (g_Note d.notes x.2).writes x0.2.2.2.2.2.1)/\i_0=zi x0.2.2.2.2.2.2/\True)/\pre_1 x0/\(∀ (x_1:y_13),let k_3:Prop:=i_0<=zi x_1.2.2.2.2.2.2/\zi x_1.2.2.2.2.2.2<zi x_1.2.2.2.2.1.length;pre_1 x_1->(decide (zi x_1.2.2.2.2.2.2<zi x_1.2.2.2.2.1.length)=true->k_3/\(∃ (b:y_11),(cnRs (frozenRs (typ ByteArray.empty eS x_1.1))=t_S b.1/\g_ByteArray x_1.2.2.2.2.1 x_1.2.2.2.2.2.2=b.2)/\((!memB b.1 b.2)=true->k_3/\(x_1.1.length+n_1)*n_16<=n_140737488355328/\(∃ (y:y_13),(k_1/\cnRs (appR (typ ByteArray.empty eS x_1.1) (typ ByteArray.empty (fun (y:ByteArray)=>[CV.s y]) [g_ByteArray x_1.2.2.2.2.1 x_1.2.2.2.2.2.2]))=t_S y.1/\zi x_1.2.1=zi y.2.1/\(x_1.2.2.1=y.2.2.1/\x_1.2.2.2.1=y.2.2.2.1/\q_S x_1.2.2.2.2.1 y.2.2.2.2.1/\q_c x_1.2.2.2.2.2.1 y.2.2.2.2.2.1)/\wr_ ((zi x_1.2.2.2.2.2.2)+i_1)=zi y.2.2.2.2.2.2/\True)/\pre_1 y/\μ_1 y<μ_1 x_1))/\((!memB b.1 b.2)=false->∃ (y:y_13),(k_1/\q_S x_1.1 y.1/\zi x_1.2.1=zi y.2.1/\(x_1.2.2.1=y.2.2.1/\x_1.2.2.2.1=y.2.2.2.1/\q_S x_1.2.2.2.2.1 y.2.2.2.2.1/\q_c x_1.2.2.2.2.2.1 y.2.2.2.2.2.1)/\wr_ ((zi x_1.2.2.2.2.2.2)+i_1)=zi y.2.2.2.2.2.2/\True)/\pre_1 y/\μ_1 y<μ_1 x_1)))/\(decide (zi x_1.2.2.2.2.2.2<zi x_1.2.2.2.2.1.length)=false->∃ (y:y_12),(k_1/\q_S x_1.1 y.1/\wr_ ((zi x_1.2.1)+i_1)=zi y.2/\True)/\pre y/\μ y<μ x)))/\((ofN b.1 b.2==i_1)=false->k_2)))/\(((g_Note d.notes x.2).kind==i_1)=false->k_2))/\(decide (zi x.2<zi d.notes.length)=false->q_S x.1 (lockD d)))))=_ by kernel_rfl) ?_
 delta i_0 i_1 wr_ zi n_140737488355328 n_1 t_c q_c t_S n_16 q_S g_ByteArray y_11 g_Note t_e q_e y_12 y_13
 simp only [zza,zzb,true_and,and_true,and_self,ne_eq,cI_app,cWrtO_app,cWrtS_app,cWrtO_1,cItemO_1,opr_ex,zcast,frz_nil,nil_map,Option.getD_none,Option.getD_some]
 refine ⟨fun h=>?_,fun h=>?_⟩
 ·simp at h;simp [lockD,h]
 simp at h
 obtain ⟨g1,g2,g3,g4⟩:=diskB_small h
 simp only [lockD,h,if_true]
 have h12:∀ n∈d.notes,n.locks.length<=12:=fun n hn=>(noteB_small (g4 n hn)).2.1
 refine ⟨fun x=>x.2<=d.notes.length/\x.1=lockK d.notes x.2,⟨by omega,rfl⟩,fun x=>d.notes.length-x.2,fun a i hp=>?_⟩
 obtain ⟨h1,h2⟩:=hp
 simp only at h1 h2
 have hl2:=lockK_len d.notes h12 i
 rw [<- h2] at hl2
 have go:i<d.notes.length->∀ v,v=lockK d.notes (i+1)->∃ x:Nat,IntKind.i64.wrap ((i:Int)+1)=(x:Int)/\(x<=d.notes.length/\v=lockK d.notes x)/\d.notes.length-x<d.notes.length-i:=fun hlt v hv =>
  ⟨i+1,wrapN (by omega),⟨by omega,hv⟩,by omega⟩
 refine ⟨fun hlt=>⟨by omega,hlt,fun e1=>⟨by omega,by omega,by omega,d.notes.drop i,by rw [cut_typ _ (Nat.le_refl _),List.take_length,cNoteS],fun e2=>?_,fun e2=>go (by omega) _ ?_⟩,fun e1=>go (by omega) _ ?_⟩,fun hge=>?_⟩
 ·have hn12:(d.notes.getD i dNote).locks.length<=12:=h12 _ (by rw [getD_lt (by omega)];exact List.getElem_mem _)
  have hK:lockK d.notes (i+1)=addL a (d.notes.getD i dNote).locks:=by rw [lockK,if_pos ⟨e1,e2⟩,h2]
  generalize (d.notes.getD i dNote).locks=lk at *
  refine ⟨fun x=>x.2.1=i/\x.2.2.2.2.1=lk/\x.2.2.2.2.2.2<=lk.length/\x.1=addL a (lk.take x.2.2.2.2.2.2),⟨rfl,rfl,Nat.zero_le _,rfl⟩,fun x=>lk.length-x.2.2.2.2.2.2,fun b1 b2 b3 b4 b5 b6 j hq=>?_⟩
  simp only at hq
  obtain ⟨rfl,rfl,q3,q4⟩:=hq
  have hq:=addL_len (b5.take j) a
  rw [<- q4,List.length_take] at hq
  have hs:j<b5.length->addL a (b5.take (j+1))=if memB b1 (b5.getD j ByteArray.empty)=true then b1 else b1++[b5.getD j ByteArray.empty]:=fun hj=>by
   rw [q4];simp only [addL];rw [fold_succ (d:=ByteArray.empty) hj]<;>rfl
  refine ⟨fun hlt2=>⟨by omega,hlt2,fun e3=>⟨by omega,hlt2,by omega,b1++[b5.getD j ByteArray.empty],by simp,j+1,wrapN (by omega),⟨rfl,rfl,by simp only;omega,?_⟩,by simp only;omega⟩,fun e3=>⟨j+1,wrapN (by omega),⟨rfl,rfl,by simp only;omega,?_⟩,by simp only;omega⟩⟩,fun hge2=>go (by omega) _ ?_⟩
  ·simp only;rw [hs (by omega)];simp at e3;simp [e3]
  ·simp only;rw [hs (by omega)];simp at e3;simp [e3]
  ·have:j=b5.length:=by omega
   rw [hK,q4,this,List.take_length]
 ·rw [lockK,if_neg (fun h=>e2 h.2),h2]
 ·rw [lockK,if_neg (fun h=>e1 h.1),h2]
 ·have:i=d.notes.length:=by omega
  rw [h2,this]
def spec_DiskLocks_c:Con Tryz.prog:=con0 [.lend] fun b:Disk=>spec_DiskLocks_ok b
theorem spec_DiskFall_ok (d:Disk) (keep:Int):FunOK Tryz.prog 208 2 [] [(0,kDiskS d),(1,kI keep)] (·=[(2,kDiskO (fallD d keep))]):=by
 refine fun_to (E:=⟨tab,ctOf [spec_DiskOk_c,spec_l2Copy_c],32,[],[(0,[1,2,4,6,10,31]),(1,[1,2,4,6,9,10,31]),(2,[4,6,10,31]),(3,[2,4,5,6,10,31]),(4,[4,5,6,10,31]),(5,[4,6,10,31]),(6,[4,6,10,31])],[],[],[],[]⟩) tab_ok mixed Tryz.func208 rfl Tryz.ntmps208 (rvs:=[.cell 4 35]) Tryz.results208 rfl fun hl=>?_
 refine cast (show (∃ (b:Disk),(q_e d.notes b.notes/\d.safe=b.safe)/\((!diskB b)=true->cnRs nilR=t_f (fallD d keep).notes/\i_0=(fallD d keep).safe)/\((!diskB b)=false->(i_0<=none.getD i_0/\none.getD i_0<=(some (wr_ (d.safe+if (if wr_ ((zi d.notes.length)-d.safe)<keep then wr_ ((zi d.notes.length)-d.safe) else keep)>i_0 then if wr_ ((zi d.notes.length)-d.safe)<keep then wr_ ((zi d.notes.length)-d.safe) else keep else i_0))).getD (zi d.notes.length)/\(some (wr_ (d.safe+if (if wr_ ((zi d.notes.length)-d.safe)<keep then wr_ ((zi d.notes.length)-d.safe) else keep)>i_0 then if wr_ ((zi d.notes.length)-d.safe)<keep then wr_ ((zi d.notes.length)-d.safe) else keep else i_0))).getD (zi d.notes.length)<=zi d.notes.length)/\∃ (b:Disk),(cnRs (cutR (typ dNote eNoteS d.notes) (none.getD i_0).toNat ((some (wr_ (d.safe+if (if wr_ ((zi d.notes.length)-d.safe)<keep then wr_ ((zi d.notes.length)-d.safe) else keep)>i_0 then if wr_ ((zi d.notes.length)-d.safe)<keep then wr_ ((zi d.notes.length)-d.safe) else keep else i_0))).getD (zi d.notes.length)).toNat)=t_e b.notes/\i_0=b.safe)/\smallD b/\q_f b.notes (fallD d keep).notes/\wr_ (d.safe+if (if wr_ ((zi d.notes.length)-d.safe)<keep then wr_ ((zi d.notes.length)-d.safe) else keep)>i_0 then if wr_ ((zi d.notes.length)-d.safe)<keep then wr_ ((zi d.notes.length)-d.safe) else keep else i_0)=(fallD d keep).safe))=_ by kernel_rfl) ?_
 delta i_0 wr_ zi t_e q_e t_f q_f
 have hk:=hl
 simp only [zza,zzb,true_and,and_true,and_self,ne_eq,cI_app,cWrtO_app,cWrtS_app,cWrtO_1,cItemO_1,opr_ex,zcast,frz_nil,nil_map,Option.getD_none,Option.getD_some]
 refine ⟨fun h=>?_,fun h=>?_⟩
 ·simp at h;simp [fallD,h]
 simp at h
 obtain ⟨g1,g2,g3,g4⟩:=diskB_small h
 simp only [fallD,h,if_true]
 rw [IntWalk.i64_in ((d.notes.length:Int)-d.safe) (by omega)]
 have e:(if 0<(if (d.notes.length:Int)-d.safe<keep then (d.notes.length:Int)-d.safe else keep) then (if (d.notes.length:Int)-d.safe<keep then (d.notes.length:Int)-d.safe else keep) else 0)=max 0 (min keep (d.notes.length-d.safe)):=by
  split<;>split at *<;>omega
 rw [e,IntWalk.i64_in _ (by omega)]
 generalize hz:d.safe+max 0 (min keep (d.notes.length-d.safe))=z
 refine ⟨by omega,by omega,by omega,⟨d.notes.take z.toNat,0⟩,?_,rfl,⟨?_,fun n hn=>g1.2 n (List.mem_of_mem_take hn)⟩,rfl,rfl⟩
 ·rw [cut_typ _ (by omega),cNoteS]<;>rfl
 ·have:=g1.1;simp only [List.length_take];omega
def spec_DiskFall_c:Con Tryz.prog:=con0 [.lend,.lend] fun b:Disk×Int=>spec_DiskFall_ok (b.1) (b.2)
theorem spec_l5Meet_ok (a:List ByteArray) (b:List ByteArray):FunOK Tryz.prog 235 2 [] [(0,k1 (sS a)),(1,k1 (sS b))] (·=[(2,kB (a.any (memB b)))]):=by
 refine fun_to (E:=⟨tab,ctOf [spec_l2Has_c],18,[],[(0,[0,1]),(1,[0,1,5]),(2,[0,1,5,9]),(3,[0,1,5]),(4,[0,1,5,17]),(5,[4]),(6,[4])],[(0,⟨Nat,fun x=>[(0,(k1 (.sh 9 (typ ByteArray.empty eS a)))),(1,(k1 (.sh 9 (typ ByteArray.empty eS b)))),(5,(k1 (.n .i64 (x:Int))))]⟩)],[],[],[]⟩) tab_ok mixed Tryz.func235 rfl Tryz.ntmps235 (rvs:=[.tmp 4]) Tryz.results235 rfl fun hl=>?_
 refine cast (show (∃ (pre:Nat->Prop),∃ (μ:Nat->Nat),∃ (x0:Nat),(q_S a a/\q_S b b/\i_0=zi x0)/\pre x0/\∀ (x:Nat),pre x->(decide (zi x<zi a.length)=true->(i_0<=zi x/\zi x<zi a.length)/\∃ (b_1:y_11),(q_S b b_1.1/\g_ByteArray a x=b_1.2)/\(memB b_1.1 b_1.2=true->true=a.any (memB b))/\(memB b_1.1 b_1.2=false->∃ (y:Nat),(q_S a a/\q_S b b/\wr_ ((zi x)+i_1)=zi y)/\pre y/\μ y<μ x))/\(decide (zi x<zi a.length)=false->false=a.any (memB b)))=_ by kernel_rfl) ?_
 delta i_0 i_1 wr_ zi t_S q_S g_ByteArray y_11
 have hx:a.length<=9223372036854775807:=hl.1 (.c (sS a)) (by simp)
 simp only [zza,zzb,true_and,and_true,and_self,ne_eq,cI_app,cWrtO_app,cWrtS_app,cWrtO_1,cItemO_1,opr_ex,zcast,frz_nil,nil_map,Option.getD_none,Option.getD_some]
 refine ⟨fun i=>i<=a.length/\∀ j,j<i->memB b (a.getD j ByteArray.empty)=false,⟨by omega,fun j hj=>absurd hj (Nat.not_lt_zero _)⟩,fun i=>a.length-i,fun i hp=>?_⟩
 obtain ⟨h1,h2⟩:=hp
 refine ⟨fun hlt=>⟨by omega,hlt,fun e=>?_,fun e=>⟨i+1,wrapN (by omega),⟨by omega,below_succ h2 e⟩,by simp only;omega⟩⟩,fun hge=>?_⟩
 ·exact (any_hit (d:=ByteArray.empty) (i:=i) (by omega) e).symm
 ·exact (any_miss (d:=ByteArray.empty) fun j hj=>h2 j (by omega)).symm
def spec_l5Meet_c:Con Tryz.prog:=con0 [.lend,.lend] fun b:List ByteArray×List ByteArray=>spec_l5Meet_ok (b.1) (b.2)
theorem spec_l5Back_ok (kind:Int) (place:Int) (tx:Int):FunOK Tryz.prog 219 3 [] [(0,kI kind),(1,kI place),(2,kI tx)] (·=[(3,k1 (oMsgs [⟨kind,0,place,tx,dOpr⟩]))]):=by
 refine fun_to (E:=⟨tab,ctOf [],12,[],[(0,[0,1,2]),(1,[6,10,11])],[],[],[],[]⟩) tab_ok mixed Tryz.func219 rfl Tryz.ntmps219 (rvs:=[.tmp 6]) Tryz.results219 rfl fun hl=>?_
 refine cast (show (cnRs (raw [[cn_ kind,cn_ i_0,cn_ place,cn_ tx,cn_ i_0,cn_ i_0,cn_ i_0,cn_ i_0,cn_ i_0,cn_ i_0,cn_ i_0]])=t_g [{ kind:=kind,to:=i_0,frm:=place,tx:=tx,op:=dOpr }])=_ by kernel_rfl) ?_
 delta i_0 cn_ t_g
 simp only [zza,zzb,true_and,and_true,and_self,ne_eq,cI_app,cWrtO_app,cWrtS_app,cWrtO_1,cItemO_1,opr_ex,zcast,frz_nil,nil_map,Option.getD_none,Option.getD_some]
 simp [dOpr]
def spec_l5Back_c:Con Tryz.prog:=con0 [.lend,.lend,.lend] fun b:Int×Int×Int=>spec_l5Back_ok (b.1) (b.2.1) (b.2.2)
theorem spec_MsgOk_ok (m:Msg):FunOK Tryz.prog 33 1 [] [(0,kMsg m)] (·=[(1,kB (msgB m))]):=by
 refine fun_to (E:=⟨tab,ctOf [spec_l1In_c,spec_OpOk_c],58,[],[(0,[1]),(1,[1,7]),(2,[2]),(3,[1,10]),(4,[2]),(5,[1,3]),(6,[1,28]),(7,[2]),(8,[1,36]),(9,[2]),(10,[2])],[],[],[(1,⟨Bool,fun x=>[(1,⟨.box,[.c (.n .i64 m.kind),.c (.n .i64 m.to),.c (.n .i64 m.frm),.c (.n .i64 m.tx),.c (.n .i64 m.op.kind),.c (.n .i64 m.op.who),.c (.n .i64 m.op.inn),.c (.n .i64 m.op.code),.c (.n .i64 m.op.sec),.c (.n .i64 m.op.fam),.c (.n .i64 m.op.gen)],[]⟩),(7,(k1 (.b (x))))]⟩)],[]⟩) tab_ok mixed Tryz.func33 rfl Tryz.ntmps33 (rvs:=[.tmp 2]) Tryz.results33 rfl fun hl=>?_
 refine cast (show (let k_2:Prop:=(m.frm==i_0)=false->false=msgB m;let k_1:Prop:=((m.frm==i_0)=true->∃ (b:Int×Int×Int),(m.to=b.1/\i_1=b.2.1/\i_3=b.2.2)/\inR b.1 b.2.1 b.2.2=msgB m)/\k_2;∃ (post:Bool->Prop),(∃ (b:Int×Int×Int),(m.tx=b.1/\i_0=b.2.1/\i_29=b.2.2)/\(∃ (x:Bool),((m.kind=m.kind/\m.to=m.to/\m.frm=m.frm/\m.tx=m.tx/\m.op.kind=m.op.kind/\m.op.who=m.op.who/\m.op.inn=m.op.inn/\m.op.code=m.op.code/\m.op.sec=m.op.sec/\m.op.fam=m.op.fam/\m.op.gen=m.op.gen)/\(!inR b.1 b.2.1 b.2.2)=x)/\post x))/\(∀ (x:Bool),post x->(x=true->false=msgB m)/\(x=false->((m.kind==i_1)=true->((m.frm==i_0)=true->∃ (b:Int×Int×Int),(m.to=b.1/\i_1=b.2.1/\i_3=b.2.2)/\(inR b.1 b.2.1 b.2.2=true->∃ (b:Opr),(m.op.kind=b.kind/\m.op.who=b.who/\m.op.inn=b.inn/\m.op.code=b.code/\m.op.sec=b.sec/\m.op.fam=b.fam/\m.op.gen=b.gen)/\opOk b=msgB m)/\(inR b.1 b.2.1 b.2.2=false->false=msgB m))/\k_2)/\((m.kind==i_1)=false->((if true=true then !(m.op.kind==i_0&&(m.op.who==i_0&&(m.op.inn==i_0&&(m.op.code==i_0&&(m.op.sec==i_0&&(m.op.fam==i_0&&m.op.gen==i_0)))))) else m.op.kind==i_0&&(m.op.who==i_0&&(m.op.inn==i_0&&(m.op.code==i_0&&(m.op.sec==i_0&&(m.op.fam==i_0&&m.op.gen==i_0))))))=true->false=msgB m)/\((if true=true then !(m.op.kind==i_0&&(m.op.who==i_0&&(m.op.inn==i_0&&(m.op.code==i_0&&(m.op.sec==i_0&&(m.op.fam==i_0&&m.op.gen==i_0)))))) else m.op.kind==i_0&&(m.op.who==i_0&&(m.op.inn==i_0&&(m.op.code==i_0&&(m.op.sec==i_0&&(m.op.fam==i_0&&m.op.gen==i_0))))))=false->((m.kind==i_2)=false->((m.kind==i_3)=true->k_1)/\((m.kind==i_3)=false->∃ (b:Int×Int×Int),(m.kind=b.1/\i_4=b.2.1/\i_7=b.2.2)/\(inR b.1 b.2.1 b.2.2=true->((m.to==i_0)=true->∃ (b:Int×Int×Int),(m.frm=b.1/\i_1=b.2.1/\i_3=b.2.2)/\inR b.1 b.2.1 b.2.2=msgB m)/\((m.to==i_0)=false->false=msgB m))/\(inR b.1 b.2.1 b.2.2=false->false=msgB m)))/\((m.kind==i_2)=true->k_1))))))=_ by kernel_rfl) ?_
 delta i_0 i_1 i_2 i_3 i_4 i_7 i_29
 simp only [zza,zzb,true_and,and_true,and_self,ne_eq,cI_app,cWrtO_app,cWrtS_app,cWrtO_1,cItemO_1,opr_ex,zcast,frz_nil,nil_map,Option.getD_none,Option.getD_some,opr_dz,if_true]
 refine ⟨fun z=>z=!inR m.tx 0 29,rfl,fun z hz=>?_⟩
 subst hz
 refine ⟨fun h=>?_,fun h=>?_⟩
 ·simp at h;simp [msgB,h]
 simp at h
 simp only [msgB,h,Bool.true_and]
 refine ⟨fun h1=>⟨fun h2=>⟨fun h3=>?_,fun h3=>?_⟩,fun h2=>?_⟩,fun h1=>⟨fun h2=>?_,fun h2=>⟨fun h3=>⟨fun h4=>⟨fun h5=>?_,fun h5=>?_⟩,fun h4=>⟨fun h5=>⟨fun h6=>?_,fun h6=>?_⟩,fun h5=>?_⟩⟩,fun h3=>⟨fun h5=>?_,fun h5=>?_⟩⟩⟩⟩
 all_goals simp_all
def spec_MsgOk_c:Con Tryz.prog:=con0 [.lend] fun b:Msg=>spec_MsgOk_ok b
end Go.Proofs.AI
namespace Go.Proofs.AI
open Go.RowKit Go.Proofs
set_option linter.unusedVariables false
set_option linter.unusedSimpArgs false
set_option maxRecDepth 100000
abbrev msgF (kind place tx:Int):Msg:=⟨kind,0,place,tx,dOpr⟩
def askD (place:Int) (d:Disk) (m:Msg):Disk×List Msg :=
 if ofN d.notes m.tx=1∨ofN d.notes m.tx=2 then (d,[msgF 4 place m.tx]) else
 if ofN d.notes m.tx=3∨((placesL m.op).any fun x=>x==place)=false∨plcB place (foldD d)=false then (d,[msgF 5 place m.tx]) else
 if (planP place (foldD d) m.tx m.op).ok=false∨(planP place (foldD d) m.tx m.op).locks.any (memB (lockD d))=true∨118<d.notes.length+(openD d).length then (d,[msgF 5 place m.tx]) else
 ((addD d ⟨1,m.tx,(planP place (foldD d) m.tx m.op).locks,(planP place (foldD d) m.tx m.op).writes⟩ true).1,[msgF 4 place m.tx])
def toldD (place:Int) (d:Disk) (m:Msg):Disk×List Msg :=
 if ¬ ofN d.notes m.tx=1 then (d,if m.kind=2 then [msgF 6 place m.tx] else []) else
 if (addD d ⟨if m.kind=2 then 2 else 3,m.tx,[],[]⟩ (decide (m.kind=2))).2=true then ((addD d ⟨if m.kind=2 then 2 else 3,m.tx,[],[]⟩ (decide (m.kind=2))).1,if m.kind=2 then [msgF 6 place m.tx] else [])
 else (d,[])
def hearD (place:Int) (d:Disk) (m:Msg):Disk×List Msg :=
 if (inR place 1 3&&diskB d&&msgB m&&m.to==place)=true then (if m.kind=1 then askD place d m else toldD place d m) else (⟨[],0⟩,[])
def tickD (place:Int) (d:Disk):List Msg:=if inR place 1 3=true then (openD d).map (msgF 7 place) else []
theorem addD_ok (d:Disk) (n:Note) (safe:Bool) (h:diskB d=true):diskB (addD d n safe).1=true:=by
 simp only [addD]
 split
 ·rename_i hh
  split
  ·exact h
  ·simp only [Bool.and_eq_true] at hh
   obtain ⟨_,g2,g3,g4⟩:=diskB_small h
   simp only [diskB,List.length_append,List.length_singleton,Bool.and_eq_true,decide_eq_true_eq,List.all_append,List.all_cons,List.all_nil,Bool.and_true,hh.2,and_true]
   refine ⟨⟨by omega,?_⟩,List.all_eq_true.2 g4⟩
   simp only [inR,Bool.and_eq_true,decide_eq_true_eq]
   split<;>omega
 ·rfl
theorem askD_ok (place:Int) {d:Disk} (m:Msg) (h:diskB d=true):diskB (askD place d m).1=true:=by
 simp only [askD]
 repeat' split
 all_goals first | exact h | exact addD_ok _ _ _ h
theorem toldD_ok (place:Int) {d:Disk} (m:Msg) (h:diskB d=true):diskB (toldD place d m).1=true:=by
 simp only [toldD]
 repeat' split
 all_goals first | exact h | exact addD_ok _ _ _ h
theorem readyK_mem {ns:List Note} {tx:Int} {m:Note}:∀ {k:Nat},k<=ns.length->readyK ns tx k=some m->m∈ns/\rdyP tx m=true
 | 0,_,h=>by cases h
 | k+1,hk,h=>by
  rw [readyK] at h;split at h
  ·rename_i hp;cases h;exact ⟨by rw [getD_lt (by omega)];exact List.getElem_mem _,hp⟩
  ·exact readyK_mem (by omega) h
theorem spec_l2Ready_ok (ns:List Note) (tx:Int):FunOK Tryz.prog 238 2 [] [(0,k1 (sNotes ns)),(1,kI tx)] (·=[(2,⟨.tup [(true,4),(false,1)],[.c (.n .i64 ((readyN ns tx).getD dNote).kind),.c (.n .i64 ((readyN ns tx).getD dNote).tx),.c (sS ((readyN ns tx).getD dNote).locks),.c (sWrts ((readyN ns tx).getD dNote).writes),.c (.b (readyN ns tx).isSome)],[]⟩)]):=by
 refine fun_to (E:=⟨tab,ctOf [],34,[],[(0,[0,1,4,29,30,31,32,33]),(1,[0,1,4,6,29,30,31,32,33]),(2,[0,1,4,6,11,29,30,31,32,33]),(3,[0,1,4,6,29,30,31,32,33]),(4,[0,1,4,6,28,29,30,31,32,33]),(5,[0,4,5,29,30,31,32,33]),(6,[0,4,5,29,30,31,32,33])],[(0,⟨Int×Int×List ByteArray×List Wrt×Int,fun x=>[(0,(k1 (.sh 107 (typ dNote eNoteS ns)))),(1,(k1 (.n .i64 tx))),(4,⟨.box,[.c (.n .i64 (x.1)),.c (.n .i64 (x.2.1)),.c (oS (x.2.2.1)),.c (oWrts (x.2.2.2.1))],[]⟩),(6,(k1 (.n .i64 (x.2.2.2.2))))]⟩)],[(6,[(2,[4])])],[],[]⟩) tab_ok mixed Tryz.func238 rfl Tryz.ntmps238 (rvs:=[.cell 4 107,.tmp 5]) Tryz.results238 rfl fun hl=>?_
 refine cast (show (∃ (pre:y_14->Prop),∃ (μ:y_14->Nat),∃ (x0:y_14),(q_e ns ns/\tx=tx/\(i_0=x0.1/\i_0=x0.2.1/\cnRs nilR=t_S x0.2.2.1/\cnRs nilR=t_d x0.2.2.2.1)/\wr_ ((zi ns.length)-i_1)=x0.2.2.2.2)/\pre x0/\(∀ (x:y_14),let k_2:Prop:=i_0<=x.2.2.2.2/\x.2.2.2.2<zi ns.length;let k_1:Prop:=∃ (y:y_14),(q_e ns ns/\tx=tx/\(x.1=y.1/\x.2.1=y.2.1/\q_S x.2.2.1 y.2.2.1/\q_d x.2.2.2.1 y.2.2.2.1)/\wr_ (x.2.2.2.2-i_1)=y.2.2.2.2)/\pre y/\μ y<μ x;pre x->(decide (x.2.2.2.2≥i_0)=true->k_2/\(((ns.getD x.2.2.2.2.toNat dNote).kind==i_1)=true->k_2/\(((ns.getD x.2.2.2.2.toNat dNote).tx==tx)=true->k_2/\(ns.getD x.2.2.2.2.toNat dNote).kind=((readyN ns tx).getD dNote).kind/\(ns.getD x.2.2.2.2.toNat dNote).tx=((readyN ns tx).getD dNote).tx/\q_S (ns.getD x.2.2.2.2.toNat dNote).locks ((readyN ns tx).getD dNote).locks/\q_c (ns.getD x.2.2.2.2.toNat dNote).writes ((readyN ns tx).getD dNote).writes/\true=(readyN ns tx).isSome)/\(((ns.getD x.2.2.2.2.toNat dNote).tx==tx)=false->k_1))/\(((ns.getD x.2.2.2.2.toNat dNote).kind==i_1)=false->k_1))/\(decide (x.2.2.2.2≥i_0)=false->i_0=((readyN ns tx).getD dNote).kind/\i_0=((readyN ns tx).getD dNote).tx/\cnRs (frozenRs nilR)=t_S ((readyN ns tx).getD dNote).locks/\cnRs (frozenRs nilR)=t_c ((readyN ns tx).getD dNote).writes/\false=(readyN ns tx).isSome)))=_ by kernel_rfl) ?_
 delta i_0 i_1 wr_ zi t_c q_c t_S t_d q_S q_d t_e q_e y_14
 have hx:ns.length<=9223372036854775807:=hl.1 (.c (sNotes ns)) (by simp)
 simp only [zza,zzb,true_and,and_true,and_self,ne_eq,cI_app,cWrtO_app,cWrtS_app,cWrtO_1,cItemO_1,opr_ex,zcast,frz_nil,nil_map,Option.getD_none,Option.getD_some]
 rw [IntWalk.i64_in _ (by omega)]
 refine ⟨fun x=>-1<=x.2.2.2.2/\x.2.2.2.2<ns.length/\readyK ns tx (x.2.2.2.2+1).toNat=readyN ns tx,⟨by simp only;omega,by simp only;omega,by simp [readyN]⟩,fun x=>(x.2.2.2.2+1).toNat,fun a1 a2 a3 a4 b hp=>?_⟩
 obtain ⟨h1,h2,h3⟩:=hp
 simp only at h1 h2 h3
 refine ⟨fun hge=>?_,fun hlt=>?_⟩
 ·rw [show (b+1).toNat=b.toNat+1 by omega,readyK] at h3
  have go:rdyP tx (ns.getD b.toNat dNote)=false->(-1<=IntKind.i64.wrap (b-1)/\IntKind.i64.wrap (b-1)<ns.length/\readyK ns tx (IntKind.i64.wrap (b-1)+1).toNat=readyN ns tx)/\(IntKind.i64.wrap (b-1)+1).toNat<(b+1).toNat:=fun hr=>by
   rw [IntWalk.i64_in _ (by omega)]
   rw [hr] at h3
   refine ⟨⟨by omega,by omega,?_⟩,by omega⟩
   rw [show (b-1+1).toNat=b.toNat by omega,<- h3];simp
  refine ⟨by omega,by omega,fun e1=>⟨by omega,by omega,fun e2=>?_,fun e2=>go ?_⟩,fun e1=>go ?_⟩
  ·have:rdyP tx (ns.getD b.toNat dNote)=true:=by simp only [rdyP,e1,e2,beq_self_eq_true,Bool.and_self]
   rw [if_pos this] at h3
   rw [<- h3]
   exact ⟨by omega,by omega,rfl,rfl,rfl,rfl,rfl⟩
  ·simp only [rdyP,Bool.and_eq_false_iff,beq_eq_false_iff_ne];exact .inr e2
  ·simp only [rdyP,Bool.and_eq_false_iff,beq_eq_false_iff_ne];exact .inl e1
 ·have:(b+1).toNat=0:=by omega
  rw [this,readyK] at h3
  rw [<- h3]
  exact ⟨rfl,rfl,rfl,rfl,rfl⟩
def spec_l2Ready_c:Con Tryz.prog:=con0 [.lend,.lend] fun b:List Note×Int=>spec_l2Ready_ok (b.1) (b.2)
theorem spec_DiskFold_ok (d:Disk):FunOK Tryz.prog 232 1 [] [(0,kDiskS d)] (·=[(1,⟨.agg,[.c (oItems (foldD d))],[]⟩)]):=by
 refine fun_to (E:=⟨tab,ctOf [spec_DiskOk_c,spec_l2Ready_c,spec_StoDo_c],46,[],[(0,[1,2,3,11,45]),(1,[1,2,3,11,45]),(2,[1,2,3,10,11,45]),(3,[2,3,11,45]),(4,[1,2,3,4,11,45]),(5,[1,2,3,4,11,16,45]),(6,[1,2,3,4,11,45]),(7,[1,2,3,4,11,25,45]),(8,[1,2,3,4,5,6,11,45]),(9,[1,2,3,4,5,11,40,45]),(10,[1,2,3,4,11,45]),(11,[2,3,11,45])],[(0,⟨List Item×Nat,fun x=>[(1,⟨.box,[.c (.sh 107 (typ dNote eNoteS d.notes)),.c (.n .i64 d.safe)],[]⟩),(2,⟨.box,[.c (.ow 263 nilR)],[]⟩),(3,⟨.box,[.c (oItems (x.1))],[]⟩),(4,(k1 (.n .i64 (x.2:Int))))]⟩)],[],[],[]⟩) tab_ok mixed Tryz.func232 rfl Tryz.ntmps232 (rvs:=[.cell 2 245]) Tryz.results232 rfl fun hl=>?_
 refine cast (show (let k_1:Prop:=q_e d.notes d.notes/\d.safe=d.safe;∃ (b:Disk),(q_e d.notes b.notes/\d.safe=b.safe)/\((!diskB b)=true->cnRs nilR=t_b (foldD d))/\((!diskB b)=false->∃ (pre:List Item×Nat->Prop),∃ (μ:List Item×Nat->Nat),∃ (x0:List Item×Nat),(k_1/\cnRs nilR=cnRs nilR/\cnRs nilR=t_b x0.1/\i_0=zi x0.2)/\pre x0/\(∀ (x:List Item×Nat),let k_3:Prop:=i_0<=zi x.2/\zi x.2<zi d.notes.length;let k_2:Prop:=∃ (y:List Item×Nat),(k_1/\cnRs nilR=cnRs nilR/\q_b x.1 y.1/\wr_ ((zi x.2)+i_1)=zi y.2)/\pre y/\μ y<μ x;pre x->(decide (zi x.2<zi d.notes.length)=true->k_3/\(((g_Note d.notes x.2).kind != i_2)=true->k_2)/\(((g_Note d.notes x.2).kind != i_2)=false->(i_0<=none.getD i_0/\none.getD i_0<=(some (zi x.2)).getD (zi d.notes.length)/\(some (zi x.2)).getD (zi d.notes.length)<=zi d.notes.length)/\k_3/\(∃ (b:List Note×Int),(cnRs (cutR (typ dNote eNoteS d.notes) (none.getD i_0).toNat ((some (zi x.2)).getD (zi d.notes.length)).toNat)=t_e b.1/\(g_Note d.notes x.2).tx=b.2)/\((readyN b.1 b.2).isSome=true->∃ (b_1:Sto×List Wrt),(cnRs (frozenRs (typ dItem eItemO x.1))=t_a b_1.1/\q_c ((readyN b.1 b.2).getD dNote).writes b_1.2)/\b_1.2.length<=n_1000/\(((∀ (k:Nat),True/\(∀ (k:Nat),True/\True)/\True)/\True)/\True)/\(∃ (y:List Item×Nat),(k_1/\cnRs nilR=cnRs nilR/\q_b (doS b_1.1 b_1.2) y.1/\wr_ ((zi x.2)+i_1)=zi y.2)/\pre y/\μ y<μ x))/\((readyN b.1 b.2).isSome=false->k_2))))/\(decide (zi x.2<zi d.notes.length)=false->q_b x.1 (foldD d)))))=_ by kernel_rfl) ?_
 delta i_0 i_1 i_2 wr_ zi t_a t_b q_b t_c q_c n_1000 g_Note t_e q_e
 simp only [zza,zzb,true_and,and_true,and_self,ne_eq,cI_app,cWrtO_app,cWrtS_app,cWrtO_1,cItemO_1,opr_ex,zcast,frz_nil,nil_map,Option.getD_none,Option.getD_some]
 refine ⟨fun h=>?_,fun h=>?_⟩
 ·simp at h;simp [foldD,h]
 simp at h
 obtain ⟨g1,g2,g3,g4⟩:=diskB_small h
 simp only [foldD,h,if_true]
 refine ⟨fun x=>x.2<=d.notes.length/\x.1=foldK d.notes x.2,⟨by omega,rfl⟩,fun x=>d.notes.length-x.2,fun a i hp=>?_⟩
 obtain ⟨h1,h2⟩:=hp
 simp only at h1 h2
 have go:i<d.notes.length->∀ v,v=foldK d.notes (i+1)->∃ x:Nat,IntKind.i64.wrap ((i:Int)+1)=(x:Int)/\(x<=d.notes.length/\v=foldK d.notes x)/\d.notes.length-x<d.notes.length-i:=fun hlt v hv =>
  ⟨i+1,wrapN (by omega),⟨by omega,hv⟩,by omega⟩
 refine ⟨fun hlt=>⟨by omega,hlt,fun e1=>go (by omega) _ (by rw [foldK,if_neg e1,h2]),fun e1=>⟨by omega,by omega,by omega,by omega,hlt,d.notes.take i,by rw [show Int.toNat 0=0 from rfl,cut_typ _ (by omega),List.drop_zero,cNoteS],?_⟩⟩,fun hge=>?_⟩
 ·have e1:(d.notes.getD i dNote).kind=2:=by simpa using e1
  have hK:foldK d.notes (i+1)=(match readyN (d.notes.take i) (d.notes.getD i dNote).tx with | some m=>doS a m.writes | none=>a):=by rw [foldK,if_pos e1,h2]<;>rfl
  rcases opt_cases (readyN (d.notes.take i) (d.notes.getD i dNote).tx) with hr | ⟨q,hr⟩
  ·rw [hr] at hK ⊢
   exact ⟨fun h=>by simp at h,fun _=>go (by omega) _ hK.symm⟩
  ·rw [hr] at hK ⊢
   have hm:=(readyK_mem (Nat.le_refl _) hr).1
   have:=(noteB_small (g4 q (List.mem_of_mem_take hm))).2.2
   refine ⟨fun _=>⟨by simp only [Option.getD_some];omega,go (by omega) _ hK.symm⟩,fun h=>by simp at h⟩
 ·have:i=d.notes.length:=by omega
  rw [h2,this]
def spec_DiskFold_c:Con Tryz.prog:=con0 [.lend] fun b:Disk=>spec_DiskFold_ok b
theorem spec_l5Ask_ok (place:Int) (d:Disk) (m:Msg) (hpre:inR place 1 3=true/\diskB d=true/\opOk m.op=true/\0<=m.tx/\m.tx<=29):FunOK Tryz.prog 225 3 [] [(0,kI place),(1,kDiskS d),(2,kMsg m)] (·=[(3,⟨.tup [(true,2),(false,1)],[.c (sNotes (askD place d m).1.notes),.c (.n .i64 (askD place d m).1.safe),.c (oMsgs (askD place d m).2)],[]⟩)]):=by
 refine fun_to (E:=⟨tab,ctOf [spec_l2Of_c,spec_OpPlaces_c,spec_DiskAdd_c,spec_l3Has_c,spec_DiskOpen_c,spec_l5Back_c,spec_DiskFold_c,spec_PlcOk_c,spec_l3Plan_c,spec_l5Meet_c,spec_DiskLocks_c],102,[],[(0,[0,4,5,6,11,24,28,47,51,80,84,97,101]),(1,[0,4,5,6,8,11,24,28,47,51,80,84,97,101]),(2,[0,4,5,6,8,11,23,24,28,47,51,80,84,97,101]),(3,[4,6,7,11,24,28,47,51,80,84,97,101]),(4,[0,4,5,6,8,9,11,24,28,47,51,80,84,97,101]),(5,[0,4,5,6,9,11,24,28,46,47,51,80,84,97,101]),(6,[4,6,7,11,24,28,47,51,80,84,97,101]),(7,[0,4,5,6,10,11,24,28,47,51,80,84,97,101]),(8,[0,4,5,6,10,11,24,28,47,51,79,80,84,97,101]),(9,[4,6,7,11,24,28,47,51,80,84,97,101]),(10,[0,4,5,6,11,24,28,47,51,80,84,97]),(11,[4,6,7,11,24,28,47,51,80,84,97,101])],[],[(10,[(0,[10]),(9,[94])])],[(2,⟨Int×Bool,fun x=>[(0,(k1 (.n .i64 place))),(4,⟨.box,[.c (.sh 107 (typ dNote eNoteS d.notes)),.c (.n .i64 d.safe)],[]⟩),(5,⟨.box,[.c (.n .i64 m.kind),.c (.n .i64 m.to),.c (.n .i64 m.frm),.c (.n .i64 m.tx),.c (.n .i64 m.op.kind),.c (.n .i64 m.op.who),.c (.n .i64 m.op.inn),.c (.n .i64 m.op.code),.c (.n .i64 m.op.sec),.c (.n .i64 m.op.fam),.c (.n .i64 m.op.gen)],[]⟩),(6,⟨.box,[.c (.ow 107 nilR),.c (.n .i64 ((0:Int)))],[]⟩),(8,(k1 (.n .i64 (x.1)))),(23,(k1 (.b (x.2))))]⟩),(5,⟨Bool,fun x=>[(0,(k1 (.n .i64 place))),(4,⟨.box,[.c (.sh 107 (typ dNote eNoteS d.notes)),.c (.n .i64 d.safe)],[]⟩),(5,⟨.box,[.c (.n .i64 m.kind),.c (.n .i64 m.to),.c (.n .i64 m.frm),.c (.n .i64 m.tx),.c (.n .i64 m.op.kind),.c (.n .i64 m.op.who),.c (.n .i64 m.op.inn),.c (.n .i64 m.op.code),.c (.n .i64 m.op.sec),.c (.n .i64 m.op.fam),.c (.n .i64 m.op.gen)],[]⟩),(6,⟨.box,[.c (.ow 107 nilR),.c (.n .i64 ((0:Int)))],[]⟩),(9,⟨.box,[.c (.ow 263 (typ dItem eItemO (foldD d)))],[]⟩),(46,(k1 (.b (x))))]⟩),(8,⟨Bool×List ByteArray×List Wrt×Bool,fun x=>[(0,(k1 (.n .i64 place))),(4,⟨.box,[.c (.sh 107 (typ dNote eNoteS d.notes)),.c (.n .i64 d.safe)],[]⟩),(5,⟨.box,[.c (.n .i64 m.kind),.c (.n .i64 m.to),.c (.n .i64 m.frm),.c (.n .i64 m.tx),.c (.n .i64 m.op.kind),.c (.n .i64 m.op.who),.c (.n .i64 m.op.inn),.c (.n .i64 m.op.code),.c (.n .i64 m.op.sec),.c (.n .i64 m.op.fam),.c (.n .i64 m.op.gen)],[]⟩),(6,⟨.box,[.c (.ow 107 nilR),.c (.n .i64 ((0:Int)))],[]⟩),(10,⟨.box,[.c (.b (x.1)),.c (oS (x.2.1)),.c (oWrts (x.2.2.1))],[]⟩),(79,(k1 (.b (x.2.2.2))))]⟩)],[]⟩) tab_ok mixed Tryz.func225 rfl Tryz.ntmps225 (rvs:=[.cell 6 35,.tmp 7]) Tryz.results225 rfl fun hl=>?_
 refine cast (show (let k_5:Prop:=cnRs nilR=cnRs nilR/\i_0=i_0;let k_4:Prop:=q_e d.notes (askD place d m).1.notes;let k_3:Prop:=q_e d.notes d.notes/\d.safe=d.safe;let k_2:Prop:=m.kind=m.kind/\m.to=m.to/\m.frm=m.frm/\m.tx=m.tx/\m.op.kind=m.op.kind/\m.op.who=m.op.who/\m.op.inn=m.op.inn/\m.op.code=m.op.code/\m.op.sec=m.op.sec/\m.op.fam=m.op.fam/\m.op.gen=m.op.gen;let k_1:Prop:=∃ (b:Int×Int×Int),(i_5=b.1/\place=b.2.1/\m.tx=b.2.2)/\k_4/\d.safe=(askD place d m).1.safe/\q_g [{ kind:=b.1,to:=i_0,frm:=b.2.1,tx:=b.2.2,op:=dOpr }] (askD place d m).2;∃ (b:List Note×Int),(q_e d.notes b.1/\m.tx=b.2)/\(∃ (post:Int×Bool->Prop),(((ofN b.1 b.2==i_1)=false->∃ (x:Int×Bool),(place=place/\k_3/\k_2/\k_5/\ofN b.1 b.2=x.1/\(ofN b.1 b.2==i_2)=x.2)/\post x)/\((ofN b.1 b.2==i_1)=true->∃ (x:Int×Bool),(place=place/\k_3/\k_2/\k_5/\ofN b.1 b.2=x.1/\true=x.2)/\post x))/\(∀ (x:Int×Bool),post x->(x.2=true->∃ (b:Int×Int×Int),(i_4=b.1/\place=b.2.1/\m.tx=b.2.2)/\k_4/\d.safe=(askD place d m).1.safe/\q_g [{ kind:=b.1,to:=i_0,frm:=b.2.1,tx:=b.2.2,op:=dOpr }] (askD place d m).2)/\(x.2=false->∃ (b:Disk),(q_e d.notes b.notes/\d.safe=b.safe)/\(∃ (post:Bool->Prop),let k_6:Prop:=∃ (x:Bool),(place=place/\k_3/\k_2/\k_5/\q_b (foldD b) (foldD d)/\true=x)/\post x;(((x.1==i_3)=false->∃ (b_1:Opr),(m.op.kind=b_1.kind/\m.op.who=b_1.who/\m.op.inn=b_1.inn/\m.op.code=b_1.code/\m.op.sec=b_1.sec/\m.op.fam=b_1.fam/\m.op.gen=b_1.gen)/\(∃ (b_2:List Int×Int),(cnRs (frozenRs (typ i_0 eI (placesL b_1)))=t_I b_2.1/\place=b_2.2)/\((!b_2.1.any fun (x:Int)=>x==b_2.2)=false->∃ (b_3:Int×Sto),(place=b_3.1/\cnRs (frozenRs (typ dItem eItemO (foldD b)))=t_a b_3.2)/\(∃ (x:Bool),(place=place/\k_3/\k_2/\k_5/\q_b (foldD b) (foldD d)/\(!plcB b_3.1 b_3.2)=x)/\post x))/\((!b_2.1.any fun (x:Int)=>x==b_2.2)=true->k_6)))/\((x.1==i_3)=true->k_6))/\(∀ (x:Bool),post x->(x=true->k_1)/\(x=false->∃ (b:y_15),(place=b.1/\cnRs (frozenRs (typ dItem eItemO (foldD d)))=t_a b.2.1/\m.tx=b.2.2.1/\m.op.kind=b.2.2.2.kind/\m.op.who=b.2.2.2.who/\m.op.inn=b.2.2.2.inn/\m.op.code=b.2.2.2.code/\m.op.sec=b.2.2.2.sec/\m.op.fam=b.2.2.2.fam/\m.op.gen=b.2.2.2.gen)/\(plcB b.1 b.2.1=true/\opOk b.2.2.2=true/\i_0<=b.2.2.1/\b.2.2.1<=i_99)/\((True/\(∀ (k:Nat),True/\True)/\(∀ (k:Nat),True/\True/\(∀ (k:Nat),True/\True)/\True)/\True)/\True)/\(∃ (post:y_17->Prop),let k_7:Prop:=∃ (x:y_17),(place=place/\k_3/\k_2/\k_5/\((planP b.1 b.2.1 b.2.2.1 b.2.2.2).ok=x.1/\q_S (planP b.1 b.2.1 b.2.2.1 b.2.2.2).locks x.2.1/\q_d (planP b.1 b.2.1 b.2.2.1 b.2.2.2).writes x.2.2.1)/\true=x.2.2.2)/\post x;(((!(planP b.1 b.2.1 b.2.2.1 b.2.2.2).ok)=false->∃ (b_1:Disk),(q_e d.notes b_1.notes/\d.safe=b_1.safe)/\(∃ (b_2:y_16),(cnRs (frozenRs (typ ByteArray.empty eS (planP b.1 b.2.1 b.2.2.1 b.2.2.2).locks))=t_S b_2.1/\cnRs (frozenRs (typ ByteArray.empty eS (lockD b_1)))=t_S b_2.2)/\(b_2.1.any (memB b_2.2)=false->∃ (b_3:Disk),(q_e d.notes b_3.notes/\d.safe=b_3.safe)/\(∃ (x:y_17),(place=place/\k_3/\k_2/\k_5/\((planP b.1 b.2.1 b.2.2.1 b.2.2.2).ok=x.1/\q_S (planP b.1 b.2.1 b.2.2.1 b.2.2.2).locks x.2.1/\q_d (planP b.1 b.2.1 b.2.2.1 b.2.2.2).writes x.2.2.1)/\decide (wr_ (wr_ ((zi d.notes.length)+(zi (openD b_3).length))+i_2)>i_120)=x.2.2.2)/\post x))/\(b_2.1.any (memB b_2.2)=true->k_7)))/\((!(planP b.1 b.2.1 b.2.2.1 b.2.2.2).ok)=true->k_7))/\(∀ (x:y_17),post x->(x.2.2.2=true->k_1)/\(x.2.2.2=false->∃ (b:y_18),((q_e d.notes b.1.notes/\d.safe=b.1.safe)/\(i_1=b.2.1.kind/\m.tx=b.2.1.tx/\cnRs (frozenRs (typ ByteArray.empty eS x.2.1))=t_S b.2.1.locks/\cnRs (frozenRs (typ dWrt eWrtO x.2.2.1))=t_c b.2.1.writes)/\true=b.2.2)/\(∃ (b_1:Int×Int×Int),(i_4=b_1.1/\place=b_1.2.1/\m.tx=b_1.2.2)/\cnRs (frozenRs (typ dNote eNoteO (addD b.1 b.2.1 b.2.2).1.notes))=t_e (askD place d m).1.notes/\(addD b.1 b.2.1 b.2.2).1.safe=(askD place d m).1.safe/\q_g [{ kind:=b_1.1,to:=i_0,frm:=b_1.2.1,tx:=b_1.2.2,op:=dOpr }] (askD place d m).2)))))))))))=_ by kernel_rfl) ?_
 delta i_0 i_99 i_1 i_5 i_2 i_3 i_4 wr_ zi t_I t_a t_b q_b t_c t_S t_d q_S q_d t_e q_e i_120 t_g q_g y_15 y_16 y_17 y_18
 obtain ⟨hp,hd,ho,ht1,ht2⟩:=hpre
 obtain ⟨g1,g2,g3,g4⟩:=diskB_small hd
 simp only [zza,zzb,true_and,and_true,and_self,ne_eq,cI_app,cWrtO_app,cWrtS_app,cWrtO_1,cItemO_1,opr_ex,zcast,frz_nil,nil_map,Option.getD_none,Option.getD_some]
 have hop:=openK_len d.notes d.notes.length
 have hope:openD d=openK d.notes d.notes.length:=by simp [openD,hd]
 rw [<- hope] at hop
 refine ⟨fun z=>z.1=ofN d.notes m.tx/\(z.2=true↔ofN d.notes m.tx=1∨ofN d.notes m.tx=2),fun h=>⟨rfl,by simp [h]⟩,fun h=>⟨rfl,by simp [h]⟩,fun a b hz=>?_⟩
 obtain ⟨rfl,hb⟩:=hz
 simp only at hb
 refine ⟨fun h=>?_,fun h=>?_⟩
 ·have e:askD place d m=(d,[msgF 4 place m.tx]):=by simp only [askD,if_pos (hb.1 h)]
  rw [e];exact ⟨rfl,rfl,rfl⟩
 have hn:¬ (ofN d.notes m.tx=1∨ofN d.notes m.tx=2):=fun h2=>by rw [hb.2 h2] at h;cases h
 have e0:askD place d m=if ofN d.notes m.tx=3∨((placesL m.op).any fun x=>x==place)=false∨plcB place (foldD d)=false then (d,[msgF 5 place m.tx]) else
  if (planP place (foldD d) m.tx m.op).ok=false∨(planP place (foldD d) m.tx m.op).locks.any (memB (lockD d))=true∨118<d.notes.length+(openD d).length then (d,[msgF 5 place m.tx]) else
  ((addD d ⟨1,m.tx,(planP place (foldD d) m.tx m.op).locks,(planP place (foldD d) m.tx m.op).writes⟩ true).1,[msgF 4 place m.tx]):=by simp only [askD,if_neg hn]
 refine ⟨fun z=>z=true↔(ofN d.notes m.tx=3∨((placesL m.op).any fun x=>x==place)=false∨plcB place (foldD d)=false),fun h1=>⟨fun h2=>?_,fun h2=>?_⟩,fun h1=>?_,fun z hz=>⟨fun h1=>?_,fun h1=>?_⟩⟩
 ·simp only [Bool.not_eq_false'] at h2
  rw [h2];cases plcB place (foldD d)<;>simp [h1]
 ·simp only [Bool.not_eq_true'] at h2;simp only [h2,true_or,or_true]
 ·simp only [h1,true_or]
 ·rw [e0,if_pos (hz.1 h1)];exact ⟨rfl,rfl,rfl⟩
 have hn2:¬ (ofN d.notes m.tx=3∨((placesL m.op).any fun x=>x==place)=false∨plcB place (foldD d)=false):=fun h2=>by rw [hz.2 h2] at h1;cases h1
 rw [if_neg hn2] at e0
 have hplc:plcB place (foldD d)=true:=by
  rcases Bool.eq_false_or_eq_true (plcB place (foldD d)) with h | h
  ·exact h
  ·exact absurd (.inr (.inr h)) hn2
 generalize planP place (foldD d) m.tx m.op=P at *
 refine ⟨hplc,ho,ht1,by omega,fun z=>z.2.1=P.locks/\z.2.2.1=P.writes/\(z.2.2.2=true↔(P.ok=false∨P.locks.any (memB (lockD d))=true∨118<d.notes.length+(openD d).length)),fun h2=>⟨fun h3=>⟨rfl,rfl,?_⟩,fun h3=>⟨rfl,rfl,?_⟩⟩,fun h2=>⟨rfl,rfl,?_⟩,fun z1 z2 z3 z4 hz4=>?_⟩
 ·simp at h2
  simp only [h2,h3]
  rw [IntWalk.i64_in ((d.notes.length:Int)+(openD d).length) (by omega),IntWalk.i64_in _ (by omega)]
  simp;omega
 ·simp only [h3,true_or,or_true]
 ·simp only [Bool.not_eq_true'] at h2;simp only [h2,true_or]
 simp only at hz4
 obtain ⟨rfl,rfl,hz4⟩:=hz4
 refine ⟨fun h2=>?_,fun h2=>?_⟩
 ·rw [e0,if_pos (hz4.1 h2)];exact ⟨rfl,rfl,rfl⟩
 ·have hn3:¬ (P.ok=false∨P.locks.any (memB (lockD d))=true∨118<d.notes.length+(openD d).length):=fun h3=>by rw [hz4.2 h3] at h2;cases h2
  rw [e0,if_neg hn3]
  exact ⟨rfl,rfl,rfl⟩
def spec_l5Ask_c:Con Tryz.prog:=conP [.lend,.lend,.lend] fun (b:Int×Disk×Msg) h=>spec_l5Ask_ok (b.1) (b.2.1) (b.2.2) h
theorem spec_l5Told_ok (place:Int) (d:Disk) (m:Msg):FunOK Tryz.prog 226 3 [] [(0,kI place),(1,kDiskS d),(2,kMsg m)] (·=[(3,⟨.tup [(true,2),(false,1)],[.c (sNotes (toldD place d m).1.notes),.c (.n .i64 (toldD place d m).1.safe),.c (oMsgs (toldD place d m).2)],[]⟩)]):=by
 refine fun_to (E:=⟨tab,ctOf [spec_l2Of_c,spec_DiskAdd_c,spec_l5Back_c],45,[],[(0,[0,4,5,6,9,10,12,19,26,27,41,42,43,44]),(1,[0,4,5,6,8,9,10,12,19,26,27,41,42,43,44]),(2,[0,4,5,6,8,9,10,12,19,26,27,41,42,43,44]),(3,[0,4,5,6,8,9,10,12,15,19,26,27,41,42,43,44]),(4,[0,4,5,6,8,9,10,12,19,26,27,41,42,43,44]),(5,[4,5,6,8,9,10,12,19,26,27,41,42,43,44]),(6,[4,5,6,8,9,10,12,19,25,26,27,41,42,43,44]),(7,[4,6,7,9,10,12,19,26,27,41,42,43,44]),(8,[4,6,9,10,11,12,19,26,27,41,42,43,44]),(9,[4,6,9,10,12,19,26,27,40,41,42,43,44]),(10,[4,6,7,9,10,12,19,26,27,41,42,43,44]),(11,[4,6,7,9,10,12,19,26,27,41,42,43,44])],[],[(7,[(1000001,[])]),(8,[(8,[36])]),(11,[(1000001,[])])],[],[]⟩) tab_ok mixed Tryz.func226 rfl Tryz.ntmps226 (rvs:=[.cell 6 35,.tmp 7]) Tryz.results226 rfl fun hl=>?_
 refine cast (show (let k_4:Prop:=q_e d.notes (toldD place d m).1.notes;let k_3:Prop:=cnRs (raw [])=t_g (toldD place d m).2;let k_2:Prop:=k_4/\d.safe=(toldD place d m).1.safe/\k_3;let k_1:Prop:=((∀ (k:Nat),True/\True/\(∀ (k:Nat),True/\True)/\(∀ (k:Nat),True/\True/\(∀ (k:Nat),True/\True)/\True)/\True)/\True/\True/\True)/\True;((m.kind==i_2)=true->∃ (b:Int×Int×Int),let k_5:Prop:=q_g [{ kind:=b.1,to:=i_0,frm:=b.2.1,tx:=b.2.2,op:=dOpr }] (toldD place d m).2;(i_6=b.1/\place=b.2.1/\m.tx=b.2.2)/\(∃ (b_1:List Note×Int),(q_e d.notes b_1.1/\m.tx=b_1.2)/\((ofN b_1.1 b_1.2 != i_1)=true->k_4/\d.safe=(toldD place d m).1.safe/\k_5)/\((ofN b_1.1 b_1.2 != i_1)=false->∃ (b_2:y_18),((q_e d.notes b_2.1.notes/\d.safe=b_2.1.safe)/\(i_2=b_2.2.1.kind/\m.tx=b_2.2.1.tx/\cnRs (frozenRs nilR)=t_S b_2.2.1.locks/\cnRs (frozenRs nilR)=t_c b_2.2.1.writes)/\(i_2==i_2)=b_2.2.2)/\k_1/\((!(addD b_2.1 b_2.2.1 b_2.2.2).2)=true->k_2)/\((!(addD b_2.1 b_2.2.1 b_2.2.2).2)=false->cnRs (frozenRs (typ dNote eNoteO (addD b_2.1 b_2.2.1 b_2.2.2).1.notes))=t_e (toldD place d m).1.notes/\(addD b_2.1 b_2.2.1 b_2.2.2).1.safe=(toldD place d m).1.safe/\k_5))))/\((m.kind==i_2)=false->∃ (b:List Note×Int),(q_e d.notes b.1/\m.tx=b.2)/\((ofN b.1 b.2 != i_1)=true->k_2)/\((ofN b.1 b.2 != i_1)=false->∃ (b:y_18),((q_e d.notes b.1.notes/\d.safe=b.1.safe)/\(i_3=b.2.1.kind/\m.tx=b.2.1.tx/\cnRs (frozenRs nilR)=t_S b.2.1.locks/\cnRs (frozenRs nilR)=t_c b.2.1.writes)/\(i_3==i_2)=b.2.2)/\k_1/\((!(addD b.1 b.2.1 b.2.2).2)=true->k_2)/\((!(addD b.1 b.2.1 b.2.2).2)=false->cnRs (frozenRs (typ dNote eNoteO (addD b.1 b.2.1 b.2.2).1.notes))=t_e (toldD place d m).1.notes/\(addD b.1 b.2.1 b.2.2).1.safe=(toldD place d m).1.safe/\k_3))))=_ by kernel_rfl) ?_
 delta i_0 i_1 i_2 i_3 t_c t_S i_6 t_e q_e t_g q_g y_18
 simp only [zza,zzb,true_and,and_true,and_self,ne_eq,cI_app,cWrtO_app,cWrtS_app,cWrtO_1,cItemO_1,opr_ex,zcast,frz_nil,nil_map,Option.getD_none,Option.getD_some]
 have e1:((2:Int)==2)=true:=rfl
 have e2:((3:Int)==2)=false:=rfl
 simp only [e1,e2]
 refine ⟨fun h1=>⟨fun h2=>?_,fun h2=>⟨fun h3=>?_,fun h3=>?_⟩⟩,fun h1=>⟨fun h2=>?_,fun h2=>⟨fun h3=>?_,fun h3=>?_⟩⟩⟩
 ·simp [toldD,h1,h2]
 ·have h2:ofN d.notes m.tx=1:=by simpa using h2
  simp only [Bool.not_eq_true'] at h3
  simp [toldD,h1,h2,h3]
 ·have h2:ofN d.notes m.tx=1:=by simpa using h2
  simp only [Bool.not_eq_false'] at h3
  simp [toldD,h1,h2,h3]
 ·simp [toldD,h1,h2]
 ·have h2:ofN d.notes m.tx=1:=by simpa using h2
  simp only [Bool.not_eq_true'] at h3
  simp [toldD,h1,h2,h3]
 ·have h2:ofN d.notes m.tx=1:=by simpa using h2
  simp only [Bool.not_eq_false'] at h3
  simp [toldD,h1,h2,h3]
def spec_l5Told_c:Con Tryz.prog:=con0 [.lend,.lend,.lend] fun b:Int×Disk×Msg=>spec_l5Told_ok (b.1) (b.2.1) (b.2.2)
theorem spec_PlcHear_ok (place:Int) (d:Disk) (m:Msg):FunOK Tryz.prog 217 3 [] [(0,kI place),(1,kDiskS d),(2,kMsg m)] (·=[(3,⟨.tup [(true,2),(false,1)],[.c (oNotes (hearD place d m).1.notes),.c (.n .i64 (hearD place d m).1.safe),.c (oMsgs (hearD place d m).2)],[]⟩)]):=by
 refine fun_to (E:=⟨tab,ctOf [spec_MsgOk_c,spec_l1In_c,spec_DiskOk_c,spec_l2Copy_c,spec_l5Ask_c,spec_l5Told_c],58,[],[(0,[0,4,5,6,9,11,31,32,36,41,43,45,46,47,52,54,56,57]),(1,[0,4,5,6,9,11,30,31,32,36,41,43,45,46,47,52,54,56,57]),(2,[6,7,9,11,31,32,36,41,43,45,46,47,52,54,56,57]),(3,[0,4,5,6,9,11,31,32,35,36,41,43,45,46,47,52,54,56,57]),(4,[6,8,9,11,31,32,36,41,43,45,47,52,54,56,57]),(5,[6,7,9,11,31,32,36,41,43,45,46,47,52,54,56,57]),(6,[6,9,10,11,31,32,36,41,43,45,46,47,52,54,56]),(7,[6,7,9,11,31,32,36,41,43,45,46,47,52,54,56,57])],[],[(4,[(4,[39])]),(5,[(1000002,[])]),(6,[(4,[50])]),(7,[(1000002,[])])],[(1,⟨Bool,fun x=>[(0,(k1 (.n .i64 place))),(4,⟨.box,[.c (.sh 107 (typ dNote eNoteS d.notes)),.c (.n .i64 d.safe)],[]⟩),(5,⟨.box,[.c (.n .i64 m.kind),.c (.n .i64 m.to),.c (.n .i64 m.frm),.c (.n .i64 m.tx),.c (.n .i64 m.op.kind),.c (.n .i64 m.op.who),.c (.n .i64 m.op.inn),.c (.n .i64 m.op.code),.c (.n .i64 m.op.sec),.c (.n .i64 m.op.fam),.c (.n .i64 m.op.gen)],[]⟩),(6,⟨.box,[.c (.ow 107 nilR),.c (.n .i64 ((0:Int)))],[]⟩),(30,(k1 (.b (x))))]⟩)],[]⟩) tab_ok mixed Tryz.func217 rfl Tryz.ntmps217 (rvs:=[.cell 6 35,.tmp 7]) Tryz.results217 rfl fun hl=>?_
 refine cast (show (let k_3:Prop:=cnRs nilR=cnRs nilR/\i_0=i_0;let k_2:Prop:=q_e d.notes d.notes/\d.safe=d.safe;let k_1:Prop:=m.kind=m.kind/\m.to=m.to/\m.frm=m.frm/\m.tx=m.tx/\m.op.kind=m.op.kind/\m.op.who=m.op.who/\m.op.inn=m.op.inn/\m.op.code=m.op.code/\m.op.sec=m.op.sec/\m.op.fam=m.op.fam/\m.op.gen=m.op.gen;∃ (post:Bool->Prop),let k_4:Prop:=∃ (x:Bool),(place=place/\k_2/\k_1/\k_3/\true=x)/\post x;(∃ (b:Int×Int×Int),(place=b.1/\i_1=b.2.1/\i_3=b.2.2)/\((!inR b.1 b.2.1 b.2.2)=false->∃ (b:Disk),(q_e d.notes b.notes/\d.safe=b.safe)/\((!diskB b)=false->∃ (b:Msg),(m.kind=b.kind/\m.to=b.to/\m.frm=b.frm/\m.tx=b.tx/\m.op.kind=b.op.kind/\m.op.who=b.op.who/\m.op.inn=b.op.inn/\m.op.code=b.op.code/\m.op.sec=b.op.sec/\m.op.fam=b.op.fam/\m.op.gen=b.op.gen)/\((!msgB b)=false->∃ (x:Bool),(place=place/\k_2/\k_1/\k_3/\(m.to != place)=x)/\post x)/\((!msgB b)=true->k_4))/\((!diskB b)=true->k_4))/\((!inR b.1 b.2.1 b.2.2)=true->k_4))/\(∀ (x:Bool),post x->(x=true->cnRs nilR=t_f (hearD place d m).1.notes/\i_0=(hearD place d m).1.safe/\cnRs (raw [])=t_g (hearD place d m).2)/\(x=false->((m.kind==i_1)=true->∃ (b:Disk),(q_e d.notes b.notes/\d.safe=b.safe)/\smallD b/\(∃ (b_1:Int×Disk×Msg),(place=b_1.1/\(cnRs (frozenRs (typ dNote eNoteO b.notes))=t_e b_1.2.1.notes/\b.safe=b_1.2.1.safe)/\m.kind=b_1.2.2.kind/\m.to=b_1.2.2.to/\m.frm=b_1.2.2.frm/\m.tx=b_1.2.2.tx/\m.op.kind=b_1.2.2.op.kind/\m.op.who=b_1.2.2.op.who/\m.op.inn=b_1.2.2.op.inn/\m.op.code=b_1.2.2.op.code/\m.op.sec=b_1.2.2.op.sec/\m.op.fam=b_1.2.2.op.fam/\m.op.gen=b_1.2.2.op.gen)/\(inR b_1.1 i_1 i_3=true/\diskB b_1.2.1=true/\opOk b_1.2.2.op=true/\i_0<=b_1.2.2.tx/\b_1.2.2.tx<=i_29)/\(∃ (b:Disk),(q_e (askD b_1.1 b_1.2.1 b_1.2.2).1.notes b.notes/\(askD b_1.1 b_1.2.1 b_1.2.2).1.safe=b.safe)/\smallD b/\q_f b.notes (hearD place d m).1.notes/\b.safe=(hearD place d m).1.safe/\q_g (askD b_1.1 b_1.2.1 b_1.2.2).2 (hearD place d m).2)))/\((m.kind==i_1)=false->∃ (b:Disk),(q_e d.notes b.notes/\d.safe=b.safe)/\smallD b/\(∃ (b_1:Int×Disk×Msg),(place=b_1.1/\(cnRs (frozenRs (typ dNote eNoteO b.notes))=t_e b_1.2.1.notes/\b.safe=b_1.2.1.safe)/\m.kind=b_1.2.2.kind/\m.to=b_1.2.2.to/\m.frm=b_1.2.2.frm/\m.tx=b_1.2.2.tx/\m.op.kind=b_1.2.2.op.kind/\m.op.who=b_1.2.2.op.who/\m.op.inn=b_1.2.2.op.inn/\m.op.code=b_1.2.2.op.code/\m.op.sec=b_1.2.2.op.sec/\m.op.fam=b_1.2.2.op.fam/\m.op.gen=b_1.2.2.op.gen)/\(∃ (b:Disk),(q_e (toldD b_1.1 b_1.2.1 b_1.2.2).1.notes b.notes/\(toldD b_1.1 b_1.2.1 b_1.2.2).1.safe=b.safe)/\smallD b/\q_f b.notes (hearD place d m).1.notes/\b.safe=(hearD place d m).1.safe/\q_g (toldD b_1.1 b_1.2.1 b_1.2.2).2 (hearD place d m).2))))))=_ by kernel_rfl) ?_
 delta i_0 i_1 i_3 i_29 t_e q_e t_f q_f t_g q_g
 simp only [zza,zzb,true_and,and_true,and_self,ne_eq,cI_app,cWrtO_app,cWrtS_app,cWrtO_1,cItemO_1,opr_ex,zcast,frz_nil,nil_map,Option.getD_none,Option.getD_some]
 refine ⟨fun z=>z=!(inR place 1 3&&diskB d&&msgB m&&m.to==place),fun h1=>⟨fun h2=>⟨fun h3=>?_,fun h3=>?_⟩,fun h2=>?_⟩,fun h1=>?_,fun z hz=>?_⟩
 ·simp at h1 h2 h3;simp [h1,h2,h3,bne]
 ·simp at h3;simp [h3]
 ·simp at h2;simp [h2]
 ·simp at h1;simp [h1]
 subst hz
 refine ⟨fun h=>?_,fun h=>?_⟩
 ·have h:(inR place 1 3&&diskB d&&msgB m&&m.to==place)=false:=by simpa only [Bool.not_eq_true'] using h
  simp [hearD,h]
 have h:(inR place 1 3&&diskB d&&msgB m&&m.to==place)=true:=by simpa only [Bool.not_eq_false'] using h
 simp only [hearD,h,if_true]
 simp only [Bool.and_eq_true] at h
 obtain ⟨⟨⟨a1,a2⟩,a3⟩,a4⟩:=h
 obtain ⟨g1,g2,g3,g4⟩:=diskB_small a2
 have htx:inR m.tx 0 29=true:=by simp only [msgB,Bool.and_eq_true] at a3;exact a3.1
 have htx:0<=m.tx/\m.tx<=29:=by simpa [inR] using htx
 refine ⟨fun hk=>?_,fun hk=>?_⟩
 ·have hop:opOk m.op=true:=by simp only [msgB,Bool.and_eq_true,hk,if_true] at a3;exact a3.2.2
  simp only [hk,if_true]
  exact ⟨g1,a1,a2,hop,htx.1,htx.2,(diskB_small (askD_ok place m a2)).1,trivial,trivial,trivial⟩
 ·simp only [hk,if_false]
  exact ⟨g1,(diskB_small (toldD_ok place m a2)).1,trivial,trivial,trivial⟩
def spec_PlcHear_c:Con Tryz.prog:=con0 [.lend,.lend,.lend] fun b:Int×Disk×Msg=>spec_PlcHear_ok (b.1) (b.2.1) (b.2.2)
theorem spec_PlcTick_ok (place:Int) (d:Disk):FunOK Tryz.prog 206 2 [] [(0,kI place),(1,kDiskS d)] (·=[(2,k1 (oMsgs (tickD place d)))]):=by
 refine fun_to (E:=⟨tab,ctOf [spec_l1In_c,spec_DiskOpen_c,spec_l5Back_c],30,[],[(0,[0,3,5,8,12,21,27,28,29]),(1,[0,3,5,8,12,21,27,28,29]),(2,[0,3,5,8,11,12,21,27,28,29]),(3,[4,5,8,12,21,27,28,29]),(4,[0,5,6,8,12,14,21,27,28]),(5,[0,5,6,7,8,12,14,21,27,28]),(6,[0,5,6,7,8,12,14,18,21,27,28]),(7,[0,5,6,7,8,12,14,21,27,28]),(8,[0,5,6,7,8,12,14,21,27,28]),(9,[4,5,8,12,21,27,28,29])],[(0,⟨List Msg×Nat,fun x=>[(0,(k1 (.n .i64 place))),(5,(k1 (oMsgs (x.1)))),(6,(k1 (.ow 3 (typ (0:Int) eI (openD d))))),(7,(k1 (.n .i64 (x.2:Int)))),(8,(k1 .any)),(14,(k1 .any))]⟩)],[(3,[(1000000,[])]),(8,[(1000000,[])]),(9,[(1000000,[])])],[],[]⟩) tab_ok mixed Tryz.func206 rfl Tryz.ntmps206 (rvs:=[.tmp 4]) Tryz.results206 rfl fun hl=>?_
 refine cast (show (∃ (b:Int×Int×Int),(place=b.1/\i_1=b.2.1/\i_3=b.2.2)/\((!inR b.1 b.2.1 b.2.2)=true->cnRs (raw [])=t_g (tickD place d))/\((!inR b.1 b.2.1 b.2.2)=false->∃ (b:Disk),(q_e d.notes b.notes/\d.safe=b.safe)/\∃ (pre:List Msg×Nat->Prop),∃ (μ:List Msg×Nat->Nat),∃ (x0:List Msg×Nat),(place=place/\cnRs (raw [])=t_g x0.1/\q_I (openD b) (openD d)/\i_0=zi x0.2/\True/\True)/\pre x0/\∀ (x:List Msg×Nat),pre x->(decide (zi x.2<(zi (openD d).length))=true->(i_0<=zi x.2/\zi x.2<(zi (openD d).length))/\(zi x.2).toNat<(openD d).length/\∃ (b:Int×Int×Int),(i_7=b.1/\place=b.2.1/\g_Int (openD d) x.2=b.2.2)/\(x.1.length+n_1)*n_88<=n_140737488355328/\∃ (y:List Msg×Nat),(place=place/\cnRs (appR (typ dMsg eMsg x.1) (typ dMsg eMsg [{ kind:=b.1,to:=i_0,frm:=b.2.1,tx:=b.2.2,op:=dOpr }]))=t_g y.1/\q_I (openD d) (openD d)/\wr_ ((zi x.2)+i_1)=zi y.2/\True/\True)/\pre y/\μ y<μ x)/\(decide (zi x.2<(zi (openD d).length))=false->q_g x.1 (tickD place d))))=_ by kernel_rfl) ?_
 delta i_0 i_1 i_3 wr_ g_Int zi t_I q_I n_140737488355328 n_1 i_7 t_e q_e t_g q_g n_88
 simp only [zza,zzb,true_and,and_true,and_self,ne_eq,cI_app,cWrtO_app,cWrtS_app,cWrtO_1,cItemO_1,opr_ex,zcast,frz_nil,nil_map,Option.getD_none,Option.getD_some]
 refine ⟨fun h=>?_,fun h=>?_⟩
 ·simp at h;simp [tickD,h]
 simp at h
 simp only [tickD,h,if_true]
 have hx:(openD d).length<=120:=by
  simp only [openD];split
  ·rename_i hd
   have:=openK_len d.notes d.notes.length
   have:=(diskB_small hd).2.1
   omega
  ·simp
 refine ⟨fun x=>x.2<=(openD d).length/\x.1=((openD d).take x.2).map (msgF 7 place),⟨by omega,rfl⟩,fun x=>(openD d).length-x.2,fun a i hp=>?_⟩
 obtain ⟨h1,h2⟩:=hp
 simp only at h1 h2
 have hl2:a.length<=i:=by rw [h2,List.length_map,List.length_take];omega
 refine ⟨fun hlt=>⟨by omega,hlt,by omega,by omega,a++[msgF 7 place ((openD d).getD i 0)],by simp,i+1,wrapN (by omega),⟨by simp only;omega,?_⟩,by simp only;omega⟩,fun hge=>?_⟩
 ·simp only;rw [take_succ (d:=0) (by omega),List.map_append,h2]<;>rfl
 ·have:i=(openD d).length:=by omega
  rw [h2,this,List.take_length]
def spec_PlcTick_c:Con Tryz.prog:=con0 [.lend,.lend] fun b:Int×Disk=>spec_PlcTick_ok (b.1) (b.2)
end Go.Proofs.AI
namespace Go.Proofs.AI
open Go.RowKit Go.Proofs
set_option linter.unusedVariables false
set_option linter.unusedSimpArgs false
set_option maxRecDepth 100000
def atF (w:List FTx) (tx:Int):Int:=idxOf (fun t=>t.tx==tx) w
def stepP (n:Int) (a:List Int×Bool) (x:Int):List Int×Bool :=
 let b:=if a.2=false/\n<=x then (a.1++[n],true) else a
 if x=n then b else (b.1++[x],b.2)
def putP (l:List Int) (n:Int):List Int:=if (l.foldl (stepP n) ([],false)).2=true then (l.foldl (stepP n) ([],false)).1 else (l.foldl (stepP n) ([],false)).1++[n]
def sendF (kind tx:Int) (o:Opr) (places:List Int):List Msg:=places.map fun p=>⟨kind,p,0,tx,if kind=1 then o else dOpr⟩
def lessP (l some:List Int):List Int:=l.filter fun x=>!(some.any fun y=>y==x)
def risP (l:List Int) (k:Nat):Bool:=inR (l.getD k 0) 1 3&&(k==0||decide (l.getD (k-1) 0<l.getD k 0))
def risB (l:List Int):Bool:=(List.range l.length).all (risP l)
def whatF (f:Front) (m:Msg):List Msg:=if ofN f.disk.notes m.tx=2 then sendF 2 m.tx dOpr [m.frm] else if 0<=atF f.way m.tx then [] else sendF 3 m.tx dOpr [m.frm]
def smallT (t:FTx):Prop:=t.can.length<=1000/\t.know.length<=1000
def smallF (f:Front):Prop:=smallD f.disk/\f.way.length<=1000/\∀ t∈f.way,smallT t
abbrev cKFrontM (x:Front):List SC:=[.c (sNotes x.disk.notes),.c (.n .i64 x.disk.safe),.c (mFTxs x.way)]
abbrev kFrontM (x:Front):Ky:=⟨.agg,cKFrontM x,[]⟩
theorem stepP_len (n:Int) (a:List Int×Bool) (x:Int):(stepP n a x).1.length<=a.1.length+2:=by
 simp only [stepP];repeat' split
 all_goals simp
theorem idxOf_hit {α:Type} {p:α->Bool} {xs:List α} {d:α} {i:Nat} (h1:i<xs.length) (h2:p (xs.getD i d)=true) (h3:∀ j,j<i->p (xs.getD j d)=false):idxOf p xs=(i:Int):=by
 rw [idxOf,if_pos (any_hit h1 h2)]
 have:xs.findIdx p=i:=by
  rw [List.findIdx_eq h1]
  rw [getD_lt h1] at h2
  exact ⟨h2,fun j hj=>by have:=h3 j hj;rwa [getD_lt (by omega)] at this⟩
 rw [this]
theorem idxOf_miss {α:Type} {p:α->Bool} {xs:List α} {d:α} (h3:∀ j,j<xs.length->p (xs.getD j d)=false):idxOf p xs=-1:=by
 rw [idxOf,if_neg (by rw [any_miss h3];simp)]
theorem spec_l6Places_ok (l:List Int):FunOK Tryz.prog 75 1 [] [(0,k1 (sI l))] (·=[(1,kB (risB l))]):=by
 refine fun_to (E:=⟨tab,ctOf [spec_l1In_c],32,[],[(0,[0]),(1,[0,3]),(2,[0,3,7]),(3,[0,3]),(4,[0,3,31]),(5,[2]),(6,[2])],[(0,⟨Nat,fun x=>[(0,(k1 (.sh 3 (typ (0:Int) eI l)))),(3,(k1 (.n .i64 (x:Int))))]⟩)],[],[],[]⟩) tab_ok mixed Tryz.func75 rfl Tryz.ntmps75 (rvs:=[.tmp 2]) Tryz.results75 rfl fun hl=>?_
 refine cast (show (∃ (pre:Nat->Prop),∃ (μ:Nat->Nat),∃ (x0:Nat),(q_I l l/\i_0=zi x0)/\pre x0/\(∀ (x:Nat),let k_1:Prop:=∃ (y:Nat),(q_I l l/\wr_ ((zi x)+i_1)=zi y)/\pre y/\μ y<μ x;pre x->(decide (zi x<zi l.length)=true->(i_0<=zi x/\zi x<zi l.length)/\(∃ (b:Int×Int×Int),(g_Int l x=b.1/\i_1=b.2.1/\i_3=b.2.2)/\((!inR b.1 b.2.1 b.2.2)=false->(decide ((zi x)>i_0)=true->(i_0<=wr_ ((zi x)-i_1)/\wr_ ((zi x)-i_1)<zi l.length)/\(i_0<=zi x/\zi x<zi l.length)/\(decide (l.getD (wr_ ((zi x)-i_1)).toNat i_0≥g_Int l x)=true->false=risB l)/\(decide (l.getD (wr_ ((zi x)-i_1)).toNat i_0≥g_Int l x)=false->k_1))/\(decide ((zi x)>i_0)=false->k_1))/\((!inR b.1 b.2.1 b.2.2)=true->false=risB l)))/\(decide (zi x<zi l.length)=false->true=risB l)))=_ by kernel_rfl) ?_
 delta i_0 i_1 i_3 wr_ g_Int zi t_I q_I
 have hx:l.length<=9223372036854775807:=hl.1 (.c (sI l)) (by simp)
 simp only [zza,zzb,true_and,and_true,and_self,ne_eq,cI_app,cWrtO_app,cWrtS_app,cWrtO_1,cItemO_1,opr_ex,zcast,frz_nil,nil_map,Option.getD_none,Option.getD_some]
 refine ⟨fun i=>i<=l.length/\∀ j,j<i->risP l j=true,⟨by omega,fun j hj=>absurd hj (Nat.not_lt_zero _)⟩,fun i=>l.length-i,fun i hp=>?_⟩
 obtain ⟨h1,h2⟩:=hp
 have bad:i<l.length->risP l i=false->false=risB l:=fun hlt h=>(range_hit hlt h).symm
 have go:i<l.length->risP l i=true->∃ y:Nat,IntKind.i64.wrap ((i:Int)+1)=(y:Int)/\(y<=l.length/\∀ j,j<y->risP l j=true)/\l.length-y<l.length-i:=fun hlt h =>
  ⟨i+1,wrapN (by omega),⟨by omega,below_succ h2 h⟩,by omega⟩
 refine ⟨fun hlt=>⟨by omega,hlt,fun e1=>⟨fun e2=>?_,fun e2=>go (by omega) ?_⟩,fun e1=>bad (by omega) ?_⟩,fun hge=>?_⟩
 ·have hw:IntKind.i64.wrap ((i:Int)-1)=((i-1:Nat):Int):=by rw [IntWalk.i64_in _ (by omega)];omega
  rw [hw,Int.toNat_natCast]
  have h0:(i==0)=false:=by simp;omega
  have e1:inR (l.getD i 0) 1 3=true:=by simpa using e1
  refine ⟨by omega,by omega,by omega,hlt,fun e3=>bad (by omega) ?_,fun e3=>go (by omega) ?_⟩
  ·simp only [risP,e1,h0,Bool.true_and,Bool.false_or];exact decide_eq_false (by omega)
  ·simp only [risP,e1,h0,Bool.true_and,Bool.false_or];exact decide_eq_true (by omega)
 ·have e1:inR (l.getD i 0) 1 3=true:=by simpa using e1
  have h0:(i==0)=true:=by simp;omega
  simp only [risP,e1,h0,Bool.true_or,Bool.and_self]
 ·have e1:inR (l.getD i 0) 1 3=false:=by simpa using e1
  simp only [risP,e1,Bool.false_and]
 ·exact (range_miss (fun j hj=>h2 j (by omega))).symm
def spec_l6Places_c:Con Tryz.prog:=con0 [.lend] fun b:List Int=>spec_l6Places_ok b
theorem spec_l6At_ok (f:Front) (tx:Int):FunOK Tryz.prog 79 2 [] [(0,kFrontS f),(1,kI tx)] (·=[(2,kI (atF f.way tx))]):=by
 refine fun_to (E:=⟨tab,ctOf [],22,[],[(0,[1,2]),(1,[1,2,5]),(2,[1,2,5,10]),(3,[1,2,5]),(4,[1,2,5,20]),(5,[4]),(6,[4])],[(0,⟨Nat,fun x=>[(1,(k1 (.n .i64 tx))),(2,⟨.box,[.c (.sh 107 (typ dNote eNoteS f.disk.notes)),.c (.n .i64 f.disk.safe),.c (.sh 69 (typ dFTx eFTxS f.way))],[]⟩),(5,(k1 (.n .i64 (x:Int))))]⟩)],[],[],[]⟩) tab_ok mixed Tryz.func79 rfl Tryz.ntmps79 (rvs:=[.tmp 4]) Tryz.results79 rfl fun hl=>?_
 refine cast (show (let k_1:Prop:=q_e f.disk.notes f.disk.notes/\f.disk.safe=f.disk.safe/\q_h f.way f.way;∃ (pre:Nat->Prop),∃ (μ:Nat->Nat),∃ (x0:Nat),(tx=tx/\k_1/\i_0=zi x0)/\pre x0/\(∀ (x:Nat),pre x->(decide (zi x<zi f.way.length)=true->(i_0<=zi x/\zi x<zi f.way.length)/\(((g_FTx f.way x).tx==tx)=true->zi x=atF f.way tx)/\(((g_FTx f.way x).tx==tx)=false->∃ (y:Nat),(tx=tx/\k_1/\wr_ ((zi x)+i_1)=zi y)/\pre y/\μ y<μ x))/\(decide (zi x<zi f.way.length)=false->(-1:Int)=atF f.way tx)))=_ by kernel_rfl) ?_
 delta i_0 i_1 wr_ zi t_e q_e g_FTx t_h q_h
 have hx:f.way.length<=9223372036854775807:=hl.1 (.c (sFTxs f.way)) (by simp)
 simp only [zza,zzb,true_and,and_true,and_self,ne_eq,cI_app,cWrtO_app,cWrtS_app,cWrtO_1,cItemO_1,opr_ex,zcast,frz_nil,nil_map,Option.getD_none,Option.getD_some]
 refine ⟨fun i=>i<=f.way.length/\∀ j,j<i->((f.way.getD j dFTx).tx==tx)=false,⟨by omega,fun j hj=>absurd hj (Nat.not_lt_zero _)⟩,fun i=>f.way.length-i,fun i hp=>?_⟩
 obtain ⟨h1,h2⟩:=hp
 refine ⟨fun hlt=>⟨by omega,hlt,fun e=>?_,fun e=>⟨i+1,wrapN (by omega),⟨by omega,below_succ h2 (by simpa using e)⟩,by simp only;omega⟩⟩,fun hge=>?_⟩
 ·exact (idxOf_hit (p:=fun t=>t.tx==tx) (d:=dFTx) (by omega) (by simpa using e) h2).symm
 ·exact (idxOf_miss (p:=fun t=>t.tx==tx) (d:=dFTx) (fun j hj=>h2 j (by omega))).symm
def spec_l6At_c:Con Tryz.prog:=con0 [.lend,.lend] fun b:Front×Int=>spec_l6At_ok (b.1) (b.2)
theorem spec_l6Put_ok (l:List Int) (n:Int) (hpre:l.length<=1000):FunOK Tryz.prog 120 2 [] [(0,k1 (sI l)),(1,kI n)] (·=[(2,k1 (oI (putP l n)))]):=by
 refine fun_to (E:=⟨tab,ctOf [],49,[],[(0,[0,1,5,8,25,26,27,28,35,39,40,41,44,45,46,47]),(1,[0,1,5,8,25,26,27,28,35,39,40,41,44,45,46,47]),(2,[0,1,5,6,8,25,26,27,28,35,39,40,41,44,45,46,47]),(3,[0,1,5,6,7,8,25,26,27,28,35,39,40,41,44,45,46,47]),(4,[0,1,5,6,7,8,12,25,26,27,28,35,39,40,41,44,45,46,47]),(5,[0,1,5,6,7,8,25,26,27,28,35,39,40,41,44,45,46,47]),(6,[0,1,5,6,7,8,24,25,26,27,28,35,39,40,41,44,45,46,47]),(7,[0,1,5,7,8,25,26,27,28,35,39,40,41,44,45,46,47]),(8,[0,1,5,6,7,8,25,26,27,28,35,39,40,41,44,45,46,47]),(9,[0,1,5,6,7,8,25,26,27,28,34,35,39,40,41,44,45,46,47]),(10,[0,1,5,6,7,8,25,26,27,28,35,39,40,41,44,45,46,47]),(11,[1,5,8,25,26,27,28,35,39,40,41,43,44,45,46,47]),(12,[5,8,25,26,27,28,35,39,40,41,44,45,46,47]),(13,[4,5,8,25,26,27,28,35,39,40,41,44,45,46,47,48])],[(0,⟨List Int×Bool×Nat,fun x=>[(0,(k1 (.sh 3 (typ (0:Int) eI l)))),(1,(k1 (.n .i64 n))),(5,(k1 (oI (x.1)))),(6,(k1 (.b (x.2.1)))),(7,(k1 (.n .i64 (x.2.2:Int)))),(8,(k1 .any))]⟩)],[(7,[(1000000,[])]),(10,[(1000000,[])]),(12,[(1000000,[])]),(13,[(1000000,[])])],[],[]⟩) tab_ok mixed Tryz.func120 rfl Tryz.ntmps120 (rvs:=[.tmp 4]) Tryz.results120 rfl fun hl=>?_
 refine cast (show (∃ (pre:y_19->Prop),∃ (μ:y_19->Nat),∃ (x0:y_19),(q_I l l/\n=n/\cnRs (raw [])=t_I x0.1/\false=x0.2.1/\i_0=zi x0.2.2/\True)/\pre x0/\(∀ (x:y_19),let k_3:Prop:=i_0<=zi x.2.2/\zi x.2.2<zi l.length;let k_2:Prop:=(x.1.length+n_1)*n_8<=n_140737488355328;let k_1:Prop:=k_3/\((g_Int l x.2.2 != n)=true->k_3/\k_2/\(∃ (y:y_19),(q_I l l/\n=n/\cnRs (appR (typ i_0 eI x.1) (typ i_0 (fun (y:Int)=>[cn_ y]) [g_Int l x.2.2]))=t_I y.1/\x.2.1=y.2.1/\wr_ ((zi x.2.2)+i_1)=zi y.2.2/\True)/\pre y/\μ y<μ x))/\((g_Int l x.2.2 != n)=false->∃ (y:y_19),(q_I l l/\n=n/\q_I x.1 y.1/\x.2.1=y.2.1/\wr_ ((zi x.2.2)+i_1)=zi y.2.2/\True)/\pre y/\μ y<μ x);pre x->(decide (zi x.2.2<zi l.length)=true->((!x.2.1)=true->k_3/\(decide (n<=g_Int l x.2.2)=true->k_2/\k_3/\((g_Int l x.2.2 != n)=true->k_3/\(x.1.length+n_1+n_1)*n_8<=n_140737488355328/\(∃ (y:y_19),(q_I l l/\n=n/\cnRs (appR (appR (typ i_0 eI x.1) (typ i_0 (fun (y:Int)=>[cn_ y]) [n])) (typ i_0 (fun (y:Int)=>[cn_ y]) [g_Int l x.2.2]))=t_I y.1/\true=y.2.1/\wr_ ((zi x.2.2)+i_1)=zi y.2.2/\True)/\pre y/\μ y<μ x))/\((g_Int l x.2.2 != n)=false->∃ (y:y_19),(q_I l l/\n=n/\cnRs (appR (typ i_0 eI x.1) (typ i_0 (fun (y:Int)=>[cn_ y]) [n]))=t_I y.1/\true=y.2.1/\wr_ ((zi x.2.2)+i_1)=zi y.2.2/\True)/\pre y/\μ y<μ x))/\(decide (n<=g_Int l x.2.2)=false->k_1))/\((!x.2.1)=false->k_1))/\(decide (zi x.2.2<zi l.length)=false->((!x.2.1)=true->k_2/\cnRs (appR (typ i_0 eI x.1) (typ i_0 (fun (y:Int)=>[cn_ y]) [n]))=t_I (putP l n))/\((!x.2.1)=false->q_I x.1 (putP l n)))))=_ by kernel_rfl) ?_
 delta i_0 i_1 wr_ g_Int zi t_I q_I n_8 n_140737488355328 n_1 cn_ y_19
 simp only [zza,zzb,true_and,and_true,and_self,ne_eq,cI_app,cWrtO_app,cWrtS_app,cWrtO_1,cItemO_1,opr_ex,zcast,frz_nil,nil_map,Option.getD_none,Option.getD_some]
 refine ⟨fun x=>x.2.2<=l.length/\(x.1,x.2.1)=(l.take x.2.2).foldl (stepP n) ([],false)/\x.1.length<=2*x.2.2,⟨Nat.zero_le _,rfl,Nat.le_refl _⟩,fun x=>l.length-x.2.2,fun a b i hp=>?_⟩
 obtain ⟨h1,h2,h3⟩:=hp
 simp only at h1 h2 h3
 have go:i<l.length->∀ v c,(v,c)=stepP n (a,b) (l.getD i 0)->∃ y:Nat,IntKind.i64.wrap ((i:Int)+1)=(y:Int)/\(y<=l.length/\(v,c)=(l.take y).foldl (stepP n) ([],false)/\v.length<=2*y)/\l.length-y<l.length-i:=fun hlt v c hv=>by
  refine ⟨i+1,wrapN (by omega),⟨by omega,?_,?_⟩,by omega⟩
  ·rw [fold_succ (d:=0) hlt,<- h2];exact hv
  ·have:=stepP_len n (a,b) (l.getD i 0)
   rw [<- hv] at this;simp only at this;omega
 refine ⟨fun hlt=>⟨fun e1=>?_,fun e1=>?_⟩,fun hge=>?_⟩
 ·have e1:b=false:=by simpa using e1
  subst e1
  refine ⟨by omega,hlt,fun e2=>⟨by omega,by omega,hlt,fun e3=>⟨by omega,hlt,by omega,a++[n]++[l.getD i 0],by simp,go (by omega) _ _ ?_⟩,fun e3=>go (by omega) _ _ ?_⟩,fun e2=>⟨by omega,hlt,fun e3=>⟨by omega,hlt,by omega,go (by omega) _ _ ?_⟩,fun e3=>go (by omega) _ _ ?_⟩⟩
  ·simp only [stepP,true_and,if_pos e2,if_neg e3];rfl
  ·have e3:l.getD i 0=n:=by simpa using e3
   simp only [stepP,true_and,if_pos e2,if_pos e3];rfl
  ·simp only [stepP,true_and,if_neg e2,if_neg e3];rfl
  ·have e3:l.getD i 0=n:=by simpa using e3
   simp only [stepP,true_and,if_neg e2,if_pos e3]
 ·have e1:b=true:=by simpa using e1
  subst e1
  have hn:¬ (true=false/\n<=l.getD i 0):=fun h=>by cases h.1
  refine ⟨by omega,hlt,fun e3=>⟨by omega,hlt,by omega,go (by omega) _ _ ?_⟩,fun e3=>go (by omega) _ _ ?_⟩
  ·simp only [stepP,if_neg hn,if_neg e3];rfl
  ·have e3:l.getD i 0=n:=by simpa using e3
   simp only [stepP,if_neg hn,if_pos e3]
 ·have:i=l.length:=by omega
  rw [this,List.take_length] at h2
  refine ⟨fun e1=>⟨by omega,?_⟩,fun e1=>?_⟩
  ·have e1:b=false:=by simpa using e1
   simp only [putP,<- h2,e1];rfl
  ·have e1:b=true:=by simpa using e1
   simp only [putP,<- h2,e1];rfl
def spec_l6Put_c:Con Tryz.prog:=conP [.lend,.lend] fun (b:List Int×Int) h=>spec_l6Put_ok (b.1) (b.2) h
theorem spec_l6Send_ok (kind:Int) (tx:Int) (o:Opr) (places:List Int) (hpre:places.length<=1000):FunOK Tryz.prog 108 4 [] [(0,kI kind),(1,kI tx),(2,kOp o),(3,k1 (sI places))] (·=[(4,k1 (oMsgs (sendF kind tx o places)))]):=by
 refine fun_to (E:=⟨tab,ctOf [],35,[],[(0,[0,1,3,6,9,12,30,31,32,33]),(1,[0,1,3,6,9,12,30,31,32,33]),(2,[0,1,3,6,9,10,12,30,31,32,33]),(3,[0,1,3,6,9,10,12,16,30,31,32,33]),(4,[0,1,3,6,9,10,12,30,31,32,33]),(5,[0,1,3,6,9,10,11,12,30,31,32,33]),(6,[0,1,3,6,9,10,11,12,27,30,31,32,33]),(7,[0,1,3,6,9,10,11,12,30,31,32,33]),(8,[0,1,3,6,9,10,12,30,31,32,33]),(9,[8,9,12,30,31,32,33,34])],[(0,⟨List Msg×Nat,fun x=>[(0,(k1 (.n .i64 kind))),(1,(k1 (.n .i64 tx))),(3,(k1 (.sh 3 (typ (0:Int) eI places)))),(6,⟨.box,[.c (.n .i64 o.kind),.c (.n .i64 o.who),.c (.n .i64 o.inn),.c (.n .i64 o.code),.c (.n .i64 o.sec),.c (.n .i64 o.fam),.c (.n .i64 o.gen)],[]⟩),(9,(k1 (oMsgs (x.1)))),(10,(k1 (.n .i64 (x.2:Int)))),(12,(k1 .any))]⟩)],[(8,[(1000000,[]),(1000001,[])]),(9,[(1000000,[])])],[],[]⟩) tab_ok mixed Tryz.func108 rfl Tryz.ntmps108 (rvs:=[.tmp 8]) Tryz.results108 rfl fun hl=>?_
 refine cast (show (let k_1:Prop:=o.kind=o.kind/\o.who=o.who/\o.inn=o.inn/\o.code=o.code/\o.sec=o.sec/\o.fam=o.fam/\o.gen=o.gen;∃ (pre:List Msg×Nat->Prop),∃ (μ:List Msg×Nat->Nat),∃ (x0:List Msg×Nat),(kind=kind/\tx=tx/\q_I places places/\k_1/\cnRs (raw [])=t_g x0.1/\i_0=zi x0.2/\True)/\pre x0/\(∀ (x:List Msg×Nat),let k_2:Prop:=(x.1.length+n_1)*n_88<=n_140737488355328;pre x->(decide (zi x.2<zi places.length)=true->(i_0<=zi x.2/\zi x.2<zi places.length)/\((kind==i_1)=true->k_2/\(∃ (y:List Msg×Nat),(kind=kind/\tx=tx/\q_I places places/\k_1/\cnRs (appR (typ dMsg eMsg x.1) (raw [[cn_ kind,cn_ (g_Int places x.2),cn_ i_0,cn_ tx,cn_ o.kind,cn_ o.who,cn_ o.inn,cn_ o.code,cn_ o.sec,cn_ o.fam,cn_ o.gen]]))=t_g y.1/\wr_ ((zi x.2)+i_1)=zi y.2/\True)/\pre y/\μ y<μ x))/\((kind==i_1)=false->k_2/\(∃ (y:List Msg×Nat),(kind=kind/\tx=tx/\q_I places places/\k_1/\cnRs (appR (typ dMsg eMsg x.1) (raw [[cn_ kind,cn_ (g_Int places x.2),cn_ i_0,cn_ tx,cn_ i_0,cn_ i_0,cn_ i_0,cn_ i_0,cn_ i_0,cn_ i_0,cn_ i_0]]))=t_g y.1/\wr_ ((zi x.2)+i_1)=zi y.2/\True)/\pre y/\μ y<μ x)))/\(decide (zi x.2<zi places.length)=false->q_g x.1 (sendF kind tx o places))))=_ by kernel_rfl) ?_
 delta i_0 i_1 wr_ g_Int zi t_I q_I n_140737488355328 n_1 cn_ t_g q_g n_88
 simp only [zza,zzb,true_and,and_true,and_self,ne_eq,cI_app,cWrtO_app,cWrtS_app,cWrtO_1,cItemO_1,opr_ex,zcast,frz_nil,nil_map,Option.getD_none,Option.getD_some]
 refine ⟨fun x=>x.2<=places.length/\x.1=sendF kind tx o (places.take x.2),⟨by omega,rfl⟩,fun x=>places.length-x.2,fun a i hp=>?_⟩
 obtain ⟨h1,h2⟩:=hp
 simp only at h1 h2
 have hl2:a.length<=i:=by rw [h2];simp only [sendF,List.length_map,List.length_take];omega
 have go:i<places.length->∀ v,v=a++sendF kind tx o [places.getD i 0]->∃ y:Nat,IntKind.i64.wrap ((i:Int)+1)=(y:Int)/\(y<=places.length/\v=sendF kind tx o (places.take y))/\places.length-y<places.length-i:=fun hlt v hv =>
  ⟨i+1,wrapN (by omega),⟨by omega,by rw [hv,take_succ (d:=0) hlt,h2];simp only [sendF,List.map_append]⟩,by omega⟩
 refine ⟨fun hlt=>⟨by omega,hlt,fun e=>⟨by omega,a++[⟨kind,places.getD i 0,0,tx,o⟩],by simp,go (by omega) _ ?_⟩,fun e=>⟨by omega,a++[⟨kind,places.getD i 0,0,tx,dOpr⟩],by simp [dOpr],go (by omega) _ ?_⟩⟩,fun hge=>?_⟩
 ·simp only [sendF,List.map_cons,List.map_nil,e,if_true];rfl
 ·simp only [sendF,List.map_cons,List.map_nil,e,if_false];rfl
 ·have:i=places.length:=by omega
  rw [h2,this,List.take_length]
def spec_l6Send_c:Con Tryz.prog:=conP [.lend,.lend,.lend,.lend] fun (b:Int×Int×Opr×List Int) h=>spec_l6Send_ok (b.1) (b.2.1) (b.2.2.1) (b.2.2.2) h
theorem spec_l6Less_ok (l:List Int) (some_:List Int) (hpre:l.length<=1000):FunOK Tryz.prog 123 2 [] [(0,k1 (sI l)),(1,k1 (sI some_))] (·=[(2,k1 (oI (lessP l some_)))]):=by
 refine fun_to (E:=⟨tab,ctOf [spec_l3Has_c],29,[],[(0,[0,1,5,7,21,25,26,27]),(1,[0,1,5,7,21,25,26,27]),(2,[0,1,5,6,7,21,25,26,27]),(3,[0,1,5,6,7,11,21,25,26,27]),(4,[0,1,5,6,7,21,25,26,27]),(5,[0,1,5,6,7,20,21,25,26,27]),(6,[0,1,5,6,7,21,25,26,27]),(7,[4,5,7,21,25,26,27,28])],[(0,⟨List Int×Nat,fun x=>[(0,(k1 (.sh 3 (typ (0:Int) eI l)))),(1,(k1 (.sh 3 (typ (0:Int) eI some_)))),(5,(k1 (oI (x.1)))),(6,(k1 (.n .i64 (x.2:Int)))),(7,(k1 .any))]⟩)],[(6,[(1000000,[])]),(7,[(1000000,[])])],[],[]⟩) tab_ok mixed Tryz.func123 rfl Tryz.ntmps123 (rvs:=[.tmp 4]) Tryz.results123 rfl fun hl=>?_
 refine cast (show (∃ (pre:List Int×Nat->Prop),∃ (μ:List Int×Nat->Nat),∃ (x0:List Int×Nat),(q_I l l/\q_I some_ some_/\cnRs (raw [])=t_I x0.1/\i_0=zi x0.2/\True)/\pre x0/\(∀ (x:List Int×Nat),let k_1:Prop:=i_0<=zi x.2/\zi x.2<zi l.length;pre x->(decide (zi x.2<zi l.length)=true->k_1/\(∃ (b:List Int×Int),(q_I some_ b.1/\g_Int l x.2=b.2)/\((!b.1.any fun (x:Int)=>x==b.2)=true->k_1/\(x.1.length+n_1)*n_8<=n_140737488355328/\(∃ (y:List Int×Nat),(q_I l l/\q_I some_ some_/\cnRs (appR (typ i_0 eI x.1) (typ i_0 (fun (y:Int)=>[cn_ y]) [g_Int l x.2]))=t_I y.1/\wr_ ((zi x.2)+i_1)=zi y.2/\True)/\pre y/\μ y<μ x))/\((!b.1.any fun (x:Int)=>x==b.2)=false->∃ (y:List Int×Nat),(q_I l l/\q_I some_ some_/\q_I x.1 y.1/\wr_ ((zi x.2)+i_1)=zi y.2/\True)/\pre y/\μ y<μ x)))/\(decide (zi x.2<zi l.length)=false->q_I x.1 (lessP l some_))))=_ by kernel_rfl) ?_
 delta i_0 i_1 wr_ g_Int zi t_I q_I n_8 n_140737488355328 n_1 cn_
 simp only [zza,zzb,true_and,and_true,and_self,ne_eq,cI_app,cWrtO_app,cWrtS_app,cWrtO_1,cItemO_1,opr_ex,zcast,frz_nil,nil_map,Option.getD_none,Option.getD_some]
 refine ⟨fun x=>x.2<=l.length/\x.1=lessP (l.take x.2) some_,⟨by omega,rfl⟩,fun x=>l.length-x.2,fun a i hp=>?_⟩
 obtain ⟨h1,h2⟩:=hp
 simp only at h1 h2
 have hl2:a.length<=i:=by
  rw [h2];have:=List.length_filter_le (fun x=>!(some_.any fun y=>y==x)) (l.take i)
  simp only [lessP,List.length_take] at this ⊢;omega
 have go:i<l.length->∀ v,v=a++lessP [l.getD i 0] some_->∃ y:Nat,IntKind.i64.wrap ((i:Int)+1)=(y:Int)/\(y<=l.length/\v=lessP (l.take y) some_)/\l.length-y<l.length-i:=fun hlt v hv =>
  ⟨i+1,wrapN (by omega),⟨by omega,by rw [hv,take_succ (d:=0) hlt,h2];simp only [lessP,List.filter_append]⟩,by omega⟩
 refine ⟨fun hlt=>⟨by omega,hlt,fun e=>⟨by omega,hlt,by omega,go (by omega) _ ?_⟩,fun e=>go (by omega) _ ?_⟩,fun hge=>?_⟩
 ·simp only [lessP,List.filter_cons,e,if_true,List.filter_nil];rfl
 ·simp only [lessP,List.filter_cons,e,Bool.false_eq_true,if_false,List.filter_nil,List.append_nil]
 ·have:i=l.length:=by omega
  rw [h2,this,List.take_length]
def spec_l6Less_c:Con Tryz.prog:=conP [.lend,.lend] fun (b:List Int×List Int) h=>spec_l6Less_ok (b.1) (b.2) h
theorem spec_l6All_ok (u:Unit):FunOK Tryz.prog 124 0 [] [] (·=[(0,k1 (oI [1,2,3]))]):=by
 refine fun_to (E:=⟨tab,ctOf [],2,[],[(0,[]),(1,[0,1])],[],[],[],[]⟩) tab_ok mixed Tryz.func124 rfl Tryz.ntmps124 (rvs:=[.tmp 0]) Tryz.results124 rfl fun hl=>?_
 refine cast (show (cnRs (typ i_0 (fun (y:Int)=>[cn_ y]) [i_1,i_2,i_3])=t_I [i_1,i_2,i_3])=_ by kernel_rfl) ?_
 delta i_0 i_1 i_2 i_3 t_I cn_
 simp only [zza,zzb,true_and,and_true,and_self,ne_eq,cI_app,cWrtO_app,cWrtS_app,cWrtO_1,cItemO_1,opr_ex,zcast,frz_nil,nil_map,Option.getD_none,Option.getD_some]
 done
def spec_l6All_c:Con Tryz.prog:=con0 [] fun b:Unit=>spec_l6All_ok b
theorem spec_l6What_ok (f:Front) (m:Msg):FunOK Tryz.prog 83 2 [] [(0,kFrontS f),(1,kMsg m)] (·=[(2,k1 (oMsgs (whatF f m)))]):=by
 refine fun_to (E:=⟨tab,ctOf [spec_l2Of_c,spec_l6At_c,spec_l6Send_c],32,[],[(0,[2,3,18,24,31]),(1,[2,3,11,18,24,31]),(2,[4,18,24,31]),(3,[3,18,23,24,31]),(4,[4,18,24,31]),(5,[4,18,24,31])],[],[],[],[]⟩) tab_ok mixed Tryz.func83 rfl Tryz.ntmps83 (rvs:=[.tmp 4]) Tryz.results83 rfl fun hl=>?_
 refine cast (show (let k_1:Prop:=((∀ (k:Nat),True/\True/\True/\True/\True/\True/\True/\True/\True/\True/\True/\True)/\True)/\True;∃ (b:List Note×Int),(q_e f.disk.notes b.1/\m.tx=b.2)/\((ofN b.1 b.2==i_2)=true->∃ (b:y_20),(i_2=b.1/\m.tx=b.2.1/\(i_0=b.2.2.1.kind/\i_0=b.2.2.1.who/\i_0=b.2.2.1.inn/\i_0=b.2.2.1.code/\i_0=b.2.2.1.sec/\i_0=b.2.2.1.fam/\i_0=b.2.2.1.gen)/\cnRs (frozenRs (typ i_0 (fun (y:Int)=>[cn_ y]) [m.frm]))=t_I b.2.2.2)/\b.2.2.2.length<=n_1000/\k_1/\q_g (sendF b.1 b.2.1 b.2.2.1 b.2.2.2) (whatF f m))/\((ofN b.1 b.2==i_2)=false->∃ (b:Front×Int),((q_e f.disk.notes b.1.disk.notes/\f.disk.safe=b.1.disk.safe/\q_h f.way b.1.way)/\m.tx=b.2)/\(decide (atF b.1.way b.2≥i_0)=true->cnRs (raw [])=t_g (whatF f m))/\(decide (atF b.1.way b.2≥i_0)=false->∃ (b:y_20),(i_3=b.1/\m.tx=b.2.1/\(i_0=b.2.2.1.kind/\i_0=b.2.2.1.who/\i_0=b.2.2.1.inn/\i_0=b.2.2.1.code/\i_0=b.2.2.1.sec/\i_0=b.2.2.1.fam/\i_0=b.2.2.1.gen)/\cnRs (frozenRs (typ i_0 (fun (y:Int)=>[cn_ y]) [m.frm]))=t_I b.2.2.2)/\b.2.2.2.length<=n_1000/\k_1/\q_g (sendF b.1 b.2.1 b.2.2.1 b.2.2.2) (whatF f m))))=_ by kernel_rfl) ?_
 delta i_0 i_2 i_3 t_I n_1000 cn_ t_e q_e t_g q_g t_h q_h y_20
 simp only [zza,zzb,true_and,and_true,and_self,ne_eq,cI_app,cWrtO_app,cWrtS_app,cWrtO_1,cItemO_1,opr_ex,zcast,frz_nil,nil_map,Option.getD_none,Option.getD_some]
 refine ⟨fun h=>⟨by simp,?_⟩,fun h=>⟨fun h2=>?_,fun h2=>⟨by simp,?_⟩⟩⟩
 ·simp only [whatF,if_pos h];rfl
 ·simp only [whatF,if_neg h,if_pos (show 0<=atF f.way m.tx from h2)]
 ·simp only [whatF,if_neg h,if_neg (show ¬ 0<=atF f.way m.tx from h2)];rfl
def spec_l6What_c:Con Tryz.prog:=con0 [.lend,.lend] fun b:Front×Msg=>spec_l6What_ok (b.1) (b.2)
theorem spec_l6Copy_ok (f:Front) (hpre:smallF f):FunOK Tryz.prog 41 1 [] [(0,kFrontS f)] (·=[(1,kFrontO f)]):=by
 refine fun_to (E:=⟨tab,ctOf [spec_l2Copy_c],39,[],[(0,[1,2,3,38]),(1,[1,2,3,38]),(2,[1,2,3,4,38]),(3,[1,2,3,4,14,38]),(4,[1,2,3,4,38]),(5,[1,2,3,4,5,38]),(6,[1,2,3,4,5,38]),(7,[1,2,3,4,5,38]),(8,[1,2,3,4,38]),(9,[2,3,38])],[(0,⟨List FTx×Nat,fun x=>[(1,⟨.box,[.c (.sh 107 (typ dNote eNoteS f.disk.notes)),.c (.n .i64 f.disk.safe),.c (.sh 69 (typ dFTx eFTxS f.way))],[]⟩),(2,⟨.box,[.c (.ow 107 nilR),.c (.n .i64 ((0:Int))),.c (.ow 69 nilR)],[]⟩),(3,⟨.box,[.c (.ow 107 (typ dNote eNoteO f.disk.notes)),.c (.n .i64 f.disk.safe),.c (oFTxs (x.1))],[]⟩),(4,(k1 (.n .i64 (x.2:Int))))]⟩)],[(8,[(1000002,[])])],[],[]⟩) tab_ok mixed Tryz.func41 rfl Tryz.ntmps41 (rvs:=[.cell 2 38]) Tryz.results41 rfl fun hl=>?_
 refine cast (show (let k_3:Prop:=f.disk.safe=f.disk.safe;let k_2:Prop:=cnRs nilR=cnRs nilR/\i_0=i_0/\cnRs nilR=cnRs nilR;let k_1:Prop:=q_e f.disk.notes f.disk.notes/\k_3/\q_h f.way f.way;∃ (b:Disk),(q_e f.disk.notes b.notes/\f.disk.safe=b.safe)/\smallD b/\(∃ (pre:List FTx×Nat->Prop),∃ (μ:List FTx×Nat->Nat),∃ (x0:List FTx×Nat),(k_1/\k_2/\(q_f b.notes f.disk.notes/\b.safe=f.disk.safe/\cnRs nilR=t_j x0.1)/\i_0=zi x0.2)/\pre x0/\(∀ (x:List FTx×Nat),pre x->(decide (zi x.2<zi f.way.length)=true->(i_0<=zi x.2/\zi x.2<zi f.way.length)/\(n_0+(g_FTx f.way x.2).can.length)*n_8<=n_140737488355328/\(n_0+(g_FTx f.way x.2).know.length)*n_8<=n_140737488355328/\(x.1.length+n_1)*n_120<=n_140737488355328/\(∃ (y:List FTx×Nat),(k_1/\k_2/\(q_f f.disk.notes f.disk.notes/\k_3/\cnRs (appR (typ dFTx eFTxO x.1) (raw [[cn_ (g_FTx f.way x.2).tx,cn_ (g_FTx f.way x.2).op.kind,cn_ (g_FTx f.way x.2).op.who,cn_ (g_FTx f.way x.2).op.inn,cn_ (g_FTx f.way x.2).op.code,cn_ (g_FTx f.way x.2).op.sec,cn_ (g_FTx f.way x.2).op.fam,cn_ (g_FTx f.way x.2).op.gen,CV.b (g_FTx f.way x.2).yes,CV.ow n_3 (appR (raw []) (typ i_0 eI (g_FTx f.way x.2).can)),CV.ow n_3 (appR (raw []) (typ i_0 eI (g_FTx f.way x.2).know))]]))=t_j y.1)/\wr_ ((zi x.2)+i_1)=zi y.2)/\pre y/\μ y<μ x))/\(decide (zi x.2<zi f.way.length)=false->q_f f.disk.notes f.disk.notes/\k_3/\q_j x.1 f.way))))=_ by kernel_rfl) ?_
 delta i_0 i_1 wr_ zi n_0 n_8 n_140737488355328 n_1 n_3 cn_ t_e q_e t_f q_f g_FTx t_h q_h t_j q_j n_120
 obtain ⟨p1,p2,p3⟩:=hpre
 simp only [zza,zzb,true_and,and_true,and_self,ne_eq,cI_app,cWrtO_app,cWrtS_app,cWrtO_1,cItemO_1,opr_ex,zcast,frz_nil,nil_map,Option.getD_none,Option.getD_some]
 refine ⟨p1,fun x=>x.2<=f.way.length/\x.1=f.way.take x.2,⟨by omega,rfl⟩,fun x=>f.way.length-x.2,fun a i hp=>?_⟩
 obtain ⟨h1,h2⟩:=hp
 simp only at h1 h2
 subst h2
 refine ⟨fun hlt=>?_,fun hge=>?_⟩
 ·have hm:f.way.getD i dFTx∈f.way:=by rw [getD_lt (by omega)];exact List.getElem_mem _
  obtain ⟨q1,q2⟩:=p3 _ hm
  refine ⟨by omega,hlt,by omega,by omega,by rw [List.length_take];omega,f.way.take (i+1),?_,i+1,wrapN (by omega),⟨by simp only;omega,rfl⟩,by simp only;omega⟩
  rw [take_succ (d:=dFTx) (by omega)]
  simp
 ·have:i=f.way.length:=by omega
  subst this
  simp
def spec_l6Copy_c:Con Tryz.prog:=conP [.lend] fun (b:Front) h=>spec_l6Copy_ok b h
end Go.Proofs.AI
namespace Go.Proofs.AI
open Go.RowKit Go.Proofs Go.Lib Go.Shelf
set_option linter.unusedVariables false
set_option linter.unusedSimpArgs false
set_option maxRecDepth 100000
theorem int_info:∃ i:TypeInfo,Tryz.prog.info? 3=some i/\i.size=1/\i.bytes=8/\i.zero=some (.int .i64 0):=⟨_,rfl,rfl,rfl,rfl⟩
set_option maxHeartbeats 4000000 in
theorem insI_end_room (w:World) (g n c h vc:Nat) (olds news:List Value) (hc:n+1<=c) (hcm:c<=maxLen) (hol:olds.length=n*1) (hnl:news.length=1) (h1n:∀ v∈news,v.oneCell'=true)
  (cur:Array Value) (hg:w.heap[g]?=some (.cells cur 3 (0,0))) (hcur:cur.size=c*1) (hold:∀ q,q<n*1->cur[q]?=olds[q]?) (hcu:Array Value) (hh:w.heap[h]?=some (.cells hcu 3 (0,0))) (hnew:∀ q,q<1->hcu[q]?=news[q]?) :
  Calls Tryz.prog 169 #[.slice (some ⟨g,0,none⟩) n c,.int .i64 n,.slice (some ⟨h,0,none⟩) 1 vc] w fun ed w'=>∃ (g' c':Nat) (cur':Array Value),ed=.returned (.slice (some ⟨g',0,none⟩) (n+1) c')/\w'.heap[g']?=some (.cells cur' 3 (0,0))/\cur'.size=c'*1/\n+1<=c'/\c'<=maxLen /\
  (∀ q,q<(n+1)*1->cur'[q]?=(olds.take (n*1)++news++olds.drop (n*1))[q]?)/\((some g)=some g'∨w.heap.size<=g')/\(∀ b,b<w.heap.size->(some g)≠some b->w'.heap[b]?=w.heap[b]?)/\w'.os=w.os/\w'.tape=w.tape/\w'.output=w.output/\w.heap.size<=w'.heap.size:=by
 have mixed:Tryz.prog.follows .mixedOrders=true:=rfl
 obtain ⟨i0,hi0,hzs,hzb,hzz⟩:=int_info
 have t33:Tryz.prog.underlying 61=some (.slice 3):=rfl
 have t3:Tryz.prog.underlying 3=some (.int .i64):=rfl
 have t4:Tryz.prog.underlying 4=some .bool:=rfl
 have u33:=run_underlying t33
 have u3:=run_underlying t3
 have u4:=run_underlying t4
 have a33:=isAgg_of t33
 have a3:=isAgg_of t3
 have a4:=isAgg_of t4
 simp only [TypeDesc.isRow] at a33 a3 a4
 have z75:∀ w,(Go.sizeOf 3).run Tryz.prog w=.ok 1 w:=fun w=>by rw [sizeOf_of hi0,hzs]
 obtain ⟨i33,e33,s33,y33⟩:∃ i:TypeInfo,Tryz.prog.info? 61=some i/\i.size=1/\i.zero=some (.slice none 0 0):=⟨_,rfl,rfl,rfl⟩
 obtain ⟨i3,e3,q3,y3⟩:∃ i:TypeInfo,Tryz.prog.info? 3=some i/\i.size=1/\i.zero=some (.int .i64 0):=⟨_,rfl,rfl,rfl⟩
 obtain ⟨i4,e4,q4,y4⟩:∃ i:TypeInfo,Tryz.prog.info? 4=some i/\i.size=1/\i.zero=some (.bool false):=⟨_,rfl,rfl,rfl⟩
 have z33:∀ w,(Go.sizeOf 61).run Tryz.prog w=.ok 1 w:=fun w=>by rw [sizeOf_of e33,s33]
 have z3:∀ w,(Go.sizeOf 3).run Tryz.prog w=.ok 1 w:=fun w=>by rw [sizeOf_of e3,q3]
 have z4:∀ w,(Go.sizeOf 4).run Tryz.prog w=.ok 1 w:=fun w=>by rw [sizeOf_of e4,q4]
 have v33:=zero_of e33 y33
 have v3:=zero_of e3 y3
 have v4:=zero_of e4 y4
 have v75:=zero_of hi0 hzz
 have hm:c<=9223372036854775807:=by unfold maxLen at hcm;omega
 have hrun:∀ ty,(Builtin.append_ #[61,61] ty #[.slice (some ⟨g,0,none⟩) n c,.slice (some ⟨h,0,none⟩) 1 vc]).run Tryz.prog w=.ok (.slice (some ⟨g,0,none⟩) (n+1) c) (w.setCells g (0+n*i0.size) news):=fun ty =>
  run_append_room_cells w 61 ty 3 i0 t33 hi0 g 0 n c ⟨h,0,none⟩ 1 vc news (by rw [hnl,hzs]) (fun j u hj=>by
   rw [Addr.add_lit,cell_of hh,Nat.zero_add,hnew j (by have:=(List.getElem?_eq_some_iff.1 hj).1;omega)];exact hj) h1n hc
   (fun j hj=>by rw [cell_of hg,hzs,Array.getElem?_eq_getElem (by omega)]<;>rfl) (fun j hj=>frozen_of hg _)
 obtain ⟨cur',c1,c2,c3,c4⟩:=setCells_heap g news (0+n*i0.size) w hg
 have o1:=oth_setCells g news (0+n*i0.size) w
 rw [hzs] at hrun c1 c3 c4 o1
 obtain ⟨W1,hW1⟩:∃ W1,W1=w.setCells g (0+n*1) news:=⟨_,rfl⟩
 rw [<- hW1] at hrun c1 o1
 have fin:Hid (∃ (g' c':Nat) (cur':Array Value),Ending.returned (.slice (some ⟨g,0,none⟩) (n+1) c)=.returned (.slice (some ⟨g',0,none⟩) (n+1) c')/\W1.heap[g']?=some (.cells cur' 3 (0,0))/\cur'.size=c'*1/\n+1<=c'/\c'<=maxLen /\
  (∀ q,q<(n+1)*1->cur'[q]?=(olds.take (n*1)++news++olds.drop (n*1))[q]?)/\(some g=some g'∨w.heap.size<=g')/\(∀ b,b<w.heap.size->some g≠some b->W1.heap[b]?=w.heap[b]?)/\W1.os=w.os/\W1.tape=w.tape/\W1.output=w.output/\w.heap.size<=W1.heap.size):=by
  refine ⟨g,c,cur',rfl,c1,by rw [c2,hcur],hc,hcm,fun q hq=>?_,.inl rfl,fun b hb hne=>o1.block b hb (fun e=>hne (by rw [e])),o1.os,o1.tape,o1.output,o1.size⟩
  rw [List.take_of_length_le (by omega),List.drop_eq_nil_of_le (by omega),List.append_nil]
  by_cases hlt:q<n*1
  ·rw [List.getElem?_append_left (by omega),c3 q (by omega),hold q hlt]
  ·obtain ⟨t,rfl⟩:∃ t,q=n*1+t:=⟨q-n*1,by omega⟩
   rw [List.getElem?_append_right (by omega),hol,Nat.add_sub_cancel_left]
   have ht:t<news.length:=by omega
   have:=c4 t _ (List.getElem?_eq_getElem ht) (by omega)
   rw [show 0+n*1+t=n*1+t by omega] at this
   rw [this,List.getElem?_eq_getElem ht]
 clear hW1 c1 c2 c3 c4 o1 hg hh hold hnew
 go_enter Tryz.func169,Tryz.ntmps169
 go_wp2_with (at_builtin;refine Lib.wpList_append_run _ rfl _ _ _ _ rfl _ _ rfl rfl _ _ (hrun _) ?_)
 go_ret
 exact fin.out
set_option maxHeartbeats 4000000 in
theorem insI_end_grow (w:World) (A:Option Nat) (n c h vc:Nat) (olds news:List Value) (hn:n<=1000) (hnc:n<=c) (hc:c<n+1) (hol:olds.length=n*1) (hnl:news.length=1) (h1n:∀ v∈news,v.oneCell'=true)
  (hA0:A=none->n=0/\c=0) (hA:∀ g,A=some g->∃ cur:Array Value,w.heap[g]?=some (.cells cur 3 (0,0))/\∀ q,q<n*1->cur[q]?=olds[q]?) (hcu:Array Value) (hh:w.heap[h]?=some (.cells hcu 3 (0,0))) (hnew:∀ q,q<1->hcu[q]?=news[q]?) :
  Calls Tryz.prog 169 #[.slice (A.map fun g=>⟨g,0,none⟩) n c,.int .i64 n,.slice (some ⟨h,0,none⟩) 1 vc] w fun ed w'=>∃ (g' c':Nat) (cur':Array Value),ed=.returned (.slice (some ⟨g',0,none⟩) (n+1) c')/\w'.heap[g']?=some (.cells cur' 3 (0,0))/\cur'.size=c'*1/\n+1<=c'/\c'<=maxLen /\
  (∀ q,q<(n+1)*1->cur'[q]?=(olds.take (n*1)++news++olds.drop (n*1))[q]?)/\((A)=some g'∨w.heap.size<=g')/\(∀ b,b<w.heap.size->(A)≠some b->w'.heap[b]?=w.heap[b]?)/\w'.os=w.os/\w'.tape=w.tape/\w'.output=w.output/\w.heap.size<=w'.heap.size:=by
 have mixed:Tryz.prog.follows .mixedOrders=true:=rfl
 obtain ⟨i0,hi0,hzs,hzb,hzz⟩:=int_info
 have t33:Tryz.prog.underlying 61=some (.slice 3):=rfl
 have t3:Tryz.prog.underlying 3=some (.int .i64):=rfl
 have t4:Tryz.prog.underlying 4=some .bool:=rfl
 have u33:=run_underlying t33
 have u3:=run_underlying t3
 have u4:=run_underlying t4
 have a33:=isAgg_of t33
 have a3:=isAgg_of t3
 have a4:=isAgg_of t4
 simp only [TypeDesc.isRow] at a33 a3 a4
 have z75:∀ w,(Go.sizeOf 3).run Tryz.prog w=.ok 1 w:=fun w=>by rw [sizeOf_of hi0,hzs]
 obtain ⟨i33,e33,s33,y33⟩:∃ i:TypeInfo,Tryz.prog.info? 61=some i/\i.size=1/\i.zero=some (.slice none 0 0):=⟨_,rfl,rfl,rfl⟩
 obtain ⟨i3,e3,q3,y3⟩:∃ i:TypeInfo,Tryz.prog.info? 3=some i/\i.size=1/\i.zero=some (.int .i64 0):=⟨_,rfl,rfl,rfl⟩
 obtain ⟨i4,e4,q4,y4⟩:∃ i:TypeInfo,Tryz.prog.info? 4=some i/\i.size=1/\i.zero=some (.bool false):=⟨_,rfl,rfl,rfl⟩
 have z33:∀ w,(Go.sizeOf 61).run Tryz.prog w=.ok 1 w:=fun w=>by rw [sizeOf_of e33,s33]
 have z3:∀ w,(Go.sizeOf 3).run Tryz.prog w=.ok 1 w:=fun w=>by rw [sizeOf_of e3,q3]
 have z4:∀ w,(Go.sizeOf 4).run Tryz.prog w=.ok 1 w:=fun w=>by rw [sizeOf_of e4,q4]
 have v33:=zero_of e33 y33
 have v3:=zero_of e3 y3
 have v4:=zero_of e4 y4
 have v75:=zero_of hi0 hzz
 have hsrc:Src Tryz.prog i0.size 61 (.slice (some ⟨h,0,none⟩) 1 vc) 1 news w:=by
  rw [hzs]
  exact Src.ofSlice w t33 ⟨h,0,none⟩ 1 vc news (by omega) (fun j u hj=>by
   rw [Addr.add_lit,cell_of hh,Nat.zero_add,hnew j (by have:=(List.getElem?_eq_some_iff.1 hj).1;omega)];exact hj) h1n
 have hold:(Builtin.firstCells i0.size n (.slice (A.map fun g=>⟨g,0,none⟩) n c)).run Tryz.prog w.drew=.ok olds.toArray w.drew:=by
  rw [hzs]
  cases A with
  | none =>
   obtain ⟨rfl,rfl⟩:=hA0 rfl
   rw [List.length_eq_zero_iff.1 hol]
   exact run_firstCells_none w.drew 1 0 0 0
  | some g =>
   obtain ⟨cur,hg,ho⟩:=hA g rfl
   exact run_firstCells_some w.drew 1 n ⟨g,0,none⟩ n c olds hol (fun j v hj=>by
    rw [Addr.add_lit,Nat.zero_add]
    refine (cell_of (w:=w.drew) hg j).trans ?_
    rw [ho j (by have:=(List.getElem?_eq_some_iff.1 hj).1;omega)];exact hj)
 have hrun:=fun ty=>run_append_grow_src w 61 61 ty 3 i0 _ t33 hi0 hzz (A.map fun g=>⟨g,0,none⟩) n c olds hold _ 1 news hsrc hc (by omega) (by rw [hzb];exact growslice_fits hc (by omega))
 obtain ⟨G,hG⟩:∃ G,G=grownCap w (n+1) c 3:=⟨_,rfl⟩
 have hGn:n+1<=G:=by rw [hG];exact grownCap_ge w _ _ _
 have hGm:G<=maxLen:=by rw [hG];exact grownCap_le_maxLen w (n+1) c 3 (by unfold maxLen;omega)
 rw [<- hG] at hrun
 obtain ⟨ROW,hROW⟩:∃ ROW:Array Value,ROW=(olds++news).toArray++Builtin.zeroCells (Value.int .i64 0).cells (G-(n+1)):=⟨_,rfl⟩
 rw [<- hROW] at hrun
 obtain ⟨W1,hW1⟩:∃ W1,W1=w.drew.alloc (.cells ROW 3):=⟨_,rfl⟩
 rw [<- hW1] at hrun
 have fin:Hid (∃ (g' c':Nat) (cur':Array Value),Ending.returned (.slice (some ⟨w.heap.size,0,none⟩) (n+1) G)=.returned (.slice (some ⟨g',0,none⟩) (n+1) c')/\W1.heap[g']?=some (.cells cur' 3 (0,0))/\cur'.size=c'*1/\n+1<=c'/\c'<=maxLen /\
  (∀ q,q<(n+1)*1->cur'[q]?=(olds.take (n*1)++news++olds.drop (n*1))[q]?)/\(A=some g'∨w.heap.size<=g')/\(∀ b,b<w.heap.size->A≠some b->W1.heap[b]?=w.heap[b]?)/\W1.os=w.os/\W1.tape=w.tape/\W1.output=w.output/\w.heap.size<=W1.heap.size):=by
  refine ⟨w.heap.size,G,ROW,rfl,by rw [hW1];exact heap_alloc_new _ _,?_,hGn,hGm,fun q hq=>?_,.inr (Nat.le_refl _),fun b hb _=>by rw [hW1];exact Below.heap_alloc _ _ _ hb,by rw [hW1]<;>rfl,by rw [hW1]<;>rfl,by rw [hW1]<;>rfl,by rw [hW1];simp [World.alloc]⟩
  ·rw [hROW,Array.size_append,zc_size]
   simp only [List.size_toArray,List.length_append,hol,hnl]
   show n*1+1+(G-(n+1))*1=G*1
   omega
  ·rw [List.take_of_length_le (by omega),List.drop_eq_nil_of_le (by omega),List.append_nil,hROW,Array.getElem?_append_left (by simp [hol,hnl];omega)]
   simp
 clear hW1 hROW hG hold hsrc hh hnew hA
 refine Calls.mono (R:=fun ed w'=>ed=.returned (.slice (some ⟨w.heap.size,0,none⟩) (n+1) G)/\w'=W1) ?_ (fun ed w' ⟨h1,h2⟩=>by subst h1 h2;exact fin.out)
 clear fin
 go_enter Tryz.func169,Tryz.ntmps169
 cases A with
 | none =>
  obtain ⟨rfl,rfl⟩:=hA0 rfl
  go_wp2_with (at_builtin;refine Lib.wpList_append_run _ rfl _ _ _ _ rfl _ _ rfl rfl _ _ (hrun _) ?_)
  go_ret
  exact ⟨rfl,rfl⟩
 | some g =>
  go_wp2_with (at_builtin;refine Lib.wpList_append_run _ rfl _ _ _ _ rfl _ _ rfl rfl _ _ (hrun _) ?_)
  all_goals (go_ret;exact ⟨rfl,rfl⟩)
set_option maxHeartbeats 4000000 in
theorem insI_shift (w:World) (g n c i h vc:Nat) (olds news:List Value) (hi:i<n) (hn:n<=1000) (hc:n+1<=c) (hcm:c<=maxLen) (hol:olds.length=n*1) (hnl:news.length=1) (h1o:∀ v∈olds,v.oneCell'=true) (h1n:∀ v∈news,v.oneCell'=true) (hgh:g≠h)
  (cur:Array Value) (hg:w.heap[g]?=some (.cells cur 3 (0,0))) (hcur:cur.size=c*1) (hold:∀ q,q<n*1->cur[q]?=olds[q]?) (hcu:Array Value) (hh:w.heap[h]?=some (.cells hcu 3 (0,0))) (hnew:∀ q,q<1->hcu[q]?=news[q]?) :
  Calls Tryz.prog 169 #[.slice (some ⟨g,0,none⟩) n c,.int .i64 i,.slice (some ⟨h,0,none⟩) 1 vc] w fun ed w'=>∃ (g' c':Nat) (cur':Array Value),ed=.returned (.slice (some ⟨g',0,none⟩) (n+1) c')/\w'.heap[g']?=some (.cells cur' 3 (0,0))/\cur'.size=c'*1/\n+1<=c'/\c'<=maxLen /\
  (∀ q,q<(n+1)*1->cur'[q]?=(olds.take (i*1)++news++olds.drop (i*1))[q]?)/\((some g)=some g'∨w.heap.size<=g')/\(∀ b,b<w.heap.size->(some g)≠some b->w'.heap[b]?=w.heap[b]?)/\w'.os=w.os/\w'.tape=w.tape/\w'.output=w.output/\w.heap.size<=w'.heap.size:=by
 have mixed:Tryz.prog.follows .mixedOrders=true:=rfl
 obtain ⟨i0,hi0,hzs,hzb,hzz⟩:=int_info
 have t33:Tryz.prog.underlying 61=some (.slice 3):=rfl
 have t3:Tryz.prog.underlying 3=some (.int .i64):=rfl
 have t4:Tryz.prog.underlying 4=some .bool:=rfl
 have u33:=run_underlying t33
 have u3:=run_underlying t3
 have u4:=run_underlying t4
 have a33:=isAgg_of t33
 have a3:=isAgg_of t3
 have a4:=isAgg_of t4
 simp only [TypeDesc.isRow] at a33 a3 a4
 have z75:∀ w,(Go.sizeOf 3).run Tryz.prog w=.ok 1 w:=fun w=>by rw [sizeOf_of hi0,hzs]
 obtain ⟨i33,e33,s33,y33⟩:∃ i:TypeInfo,Tryz.prog.info? 61=some i/\i.size=1/\i.zero=some (.slice none 0 0):=⟨_,rfl,rfl,rfl⟩
 obtain ⟨i3,e3,q3,y3⟩:∃ i:TypeInfo,Tryz.prog.info? 3=some i/\i.size=1/\i.zero=some (.int .i64 0):=⟨_,rfl,rfl,rfl⟩
 obtain ⟨i4,e4,q4,y4⟩:∃ i:TypeInfo,Tryz.prog.info? 4=some i/\i.size=1/\i.zero=some (.bool false):=⟨_,rfl,rfl,rfl⟩
 have z33:∀ w,(Go.sizeOf 61).run Tryz.prog w=.ok 1 w:=fun w=>by rw [sizeOf_of e33,s33]
 have z3:∀ w,(Go.sizeOf 3).run Tryz.prog w=.ok 1 w:=fun w=>by rw [sizeOf_of e3,q3]
 have z4:∀ w,(Go.sizeOf 4).run Tryz.prog w=.ok 1 w:=fun w=>by rw [sizeOf_of e4,q4]
 have v33:=zero_of e33 y33
 have v3:=zero_of e3 y3
 have v4:=zero_of e4 y4
 have v75:=zero_of hi0 hzz
 have hm:c<=9223372036854775807:=by unfold maxLen at hcm;omega
 have hz2:¬ ((i:Int)=(n:Int)):=by omega
 have hov:∀ lb cb,(callFunc 201 #[.slice (some ⟨h,0,none⟩) 1 vc,.slice (some ⟨g,(i+1)*1,none⟩) lb cb]).run Tryz.prog w=.ok (.value (.bool false)) w:=fun lb cb=>by
  rw [run_callFunc_extern Tryz.func201 (by kernel_rfl) (by kernel_rfl) (by kernel_rfl) (e:=Extern.SlicesOverlaps.overlaps #[61,61] #[4]) (by kernel_rfl),
   Lib.run_overlaps_apart w 61 4 3 t33 1 z75 ⟨h,0,none⟩ ⟨g,(i+1)*1,none⟩ 1 vc lb cb (fun e=>hgh e.symm) 3 3 _ _ (shape_of hh) (shape_of hg) (by omega) (frozen_of hh _) (frozen_of hh _)]
  rfl
 obtain ⟨mv,hmv⟩:∃ mv,mv=olds.drop (i*1):=⟨_,rfl⟩
 have hml:mv.length=(n-i)*1:=by rw [hmv,List.length_drop,hol];omega
 have h1m:∀ v∈mv,v.oneCell'=true:=fun v hv=>h1o v (by rw [hmv] at hv;exact List.mem_of_mem_drop hv)
 have hmat:∀ j v,mv[j]?=some v->cur[i*1+j]?=some v:=fun j v hj=>by
  have hlt:=(List.getElem?_eq_some_iff.1 hj).1
  rw [hmv,List.getElem?_drop] at hj
  rw [hold _ (by omega)];exact hj
 have hmin1:Nat.min (n-i) (n+1-i)=n-i:=by simp only [Nat.min_def];split<;>omega
 have hcp1:∀ ty dc sc,(Builtin.copy_ #[61,61] ty #[.slice (some ⟨g,(i+1)*1,none⟩) (n-i) dc,.slice (some ⟨g,i*1,none⟩) (n+1-i) sc]).run Tryz.prog w.drew=.ok (goInt (Nat.min (n+1-i) (n-i))) (w.drew.setCells g ((i+1)*1) mv):=fun ty dc sc =>
  run_copy_any w.drew _ _ ty 3 g ((i+1)*1) (n-i) dc ⟨g,i*1,none⟩ (n+1-i) sc mv i0 t33 hi0 (by rw [show (n+1-i).min (n-i)=n-i by simp only [Nat.min_def];split<;>omega,hzs,hml])
   (fun j v hj=>by rw [Addr.add_lit];exact (cell_of (w:=w.drew) hg _).trans (hmat j v hj))
   (fun j hj=>by rw [cell_of (w:=w.drew) hg,Array.getElem?_eq_getElem (by omega)]<;>rfl) (fun j hj=>frozen_of (w:=w.drew) hg _) h1m
 obtain ⟨W1,hW1⟩:∃ W1,W1=w.drew.setCells g ((i+1)*1) mv:=⟨_,rfl⟩
 obtain ⟨cur1,c1,c2,c3,c4⟩:=setCells_heap g mv ((i+1)*1) w.drew (cur:=cur) (e:=3) (fr:=(0,0)) hg
 have o1:Oth w W1 g:=by rw [hW1];exact (Oth.drew w g).trans (oth_setCells g _ _ _)
 rw [<- hW1] at c1 hcp1
 have hhl:h<w.heap.size:=(Array.getElem?_eq_some_iff.1 hh).1
 have hh1:W1.heap[h]?=some (.cells hcu 3 (0,0)):=(o1.block h hhl (fun e=>hgh e.symm)).trans hh
 have hmin2:Nat.min 1 (n+1-i)=1:=by simp only [Nat.min_def];split<;>omega
 have hcp2:∀ (W:World),W.heap=W1.heap->∀ ty dc,(Builtin.copy_ #[61,61] ty #[.slice (some ⟨g,i*1,none⟩) (n+1-i) dc,.slice (some ⟨h,0,none⟩) 1 vc]).run Tryz.prog W=.ok (goInt (Nat.min 1 (n+1-i))) (W.setCells g (i*1) news):=fun W hWh ty dc =>
  run_copy_any W _ _ ty 3 g (i*1) (n+1-i) dc ⟨h,0,none⟩ 1 vc news i0 t33 hi0 (by rw [hmin2,hzs,hnl])
   (fun j v hj=>by
    rw [Addr.add_lit,Nat.zero_add,cell_of (w:=W) (by rw [hWh];exact hh1),hnew j (by have:=(List.getElem?_eq_some_iff.1 hj).1;omega)];exact hj)
   (fun j hj=>by rw [cell_of (w:=W) (by rw [hWh];exact c1),Array.getElem?_eq_getElem (by omega)];rfl) (fun j hj=>frozen_of (w:=W) (by rw [hWh];exact c1) _) h1n
 have fin:Hid (∀ W:World,W.heap=W1.heap->W.os=W1.os->W.tape=W1.tape->W.output=W1.output->∃ (g' c':Nat) (cur':Array Value),Ending.returned (.slice (some ⟨g,0,none⟩) (n+1) c)=.returned (.slice (some ⟨g',0,none⟩) (n+1) c')/\(W.setCells g (i*1) news).heap[g']?=some (.cells cur' 3 (0,0))/\cur'.size=c'*1/\n+1<=c'/\c'<=maxLen /\
  (∀ q,q<(n+1)*1->cur'[q]?=(olds.take (i*1)++news++olds.drop (i*1))[q]?)/\(some g=some g'∨w.heap.size<=g')/\(∀ b,b<w.heap.size->some g≠some b->(W.setCells g (i*1) news).heap[b]?=w.heap[b]?)/\(W.setCells g (i*1) news).os=w.os/\(W.setCells g (i*1) news).tape=w.tape/\(W.setCells g (i*1) news).output=w.output/\w.heap.size<=(W.setCells g (i*1) news).heap.size):=by
  intro W e1 e2 e3 e4
  obtain ⟨cur2,d1,d2,d3,d4⟩:=setCells_heap g news (i*1) W (cur:=cur1) (e:=3) (fr:=(0,0)) (by rw [e1];exact c1)
  have o2:Oth W1 W g:=⟨e2,e3,e4,by rw [e1];exact Nat.le_refl _,fun b _ _=>by rw [e1]⟩
  have o3:=o1.trans (o2.trans (oth_setCells g news (i*1) W))
  refine ⟨g,c,cur2,rfl,d1,by rw [d2,c2,hcur],hc,hcm,fun q hq=>?_,.inl rfl,fun b hb hne=>o3.block b hb (fun e=>hne (by rw [e])),o3.os,o3.tape,o3.output,o3.size⟩
  have ht:(olds.take (i*1)).length=i*1:=by rw [List.length_take,hol];omega
  have htn:(olds.take (i*1)++news).length=i*1+1:=by rw [List.length_append,ht,hnl]
  by_cases h1:q<i*1
  ·rw [List.getElem?_append_left (by omega),List.getElem?_append_left (by omega),List.getElem?_take,if_pos h1,d3 q (by omega),c3 q (by omega),hold q (by omega)]
  ·by_cases h2:q<i*1+1
   ·obtain ⟨t,rfl⟩:∃ t,q=i*1+t:=⟨q-i*1,by omega⟩
    have htl:t<news.length:=by omega
    rw [List.getElem?_append_left (by omega),List.getElem?_append_right (by omega),ht,Nat.add_sub_cancel_left,d4 t _ (List.getElem?_eq_getElem htl) (by omega),List.getElem?_eq_getElem htl]
   ·obtain ⟨t,rfl⟩:∃ t,q=i*1+1+t:=⟨q-(i*1+1),by omega⟩
    have htl:t<mv.length:=by omega
    have e5:=c4 t _ (List.getElem?_eq_getElem htl) (by omega)
    rw [show (i+1)*1+t=i*1+1+t by omega] at e5
    rw [List.getElem?_append_right (by omega),htn,Nat.add_sub_cancel_left,d3 _ (by omega),e5,<- hmv,List.getElem?_eq_getElem htl]
 have hw1:IntKind.i64.wrap ((i:Int)+1)=(i:Int)+1:=by rw [IntKind.wrap_i64];omega
 have hw2:IntKind.i64.wrap ((n:Int)+1)=(n:Int)+1:=by rw [IntKind.wrap_i64];omega
 have hb1:(0:Int)<=(i:Int)+1:=by omega
 have hb0:(0:Int)<=(n:Int)+1:=by omega
 have hin:i<=n:=by omega
 have htn:((i:Int)+1).toNat=i+1:=by omega
 have htn2:((n:Int)+1).toNat=n+1:=by omega
 have hb2:¬ (c=i+1):=by omega
 have hb3:(i:Int)<=(n:Int)+1:=by omega
 have hb4:¬ (c=i):=by omega
 simp only [Nat.mul_one] at hov hcp1 hcp2 fin
 refine Calls.mono (R:=fun ed w'=>ed=.returned (.slice (some ⟨g,0,none⟩) (n+1) c)/\∃ W:World,w'=W.setCells g i news/\W.heap=W1.heap/\W.os=W1.os/\W.tape=W1.tape/\W.output=W1.output) ?_ (fun ed w' ⟨h1,W,h2,h3,h4,h5,h6⟩=>by subst h1 h2;simpa only [Nat.mul_one] using fin.out W h3 h4 h5 h6)
 clear fin hW1 c1 c2 c3 c4 o1 hg hh hh1 hold hnew hmat hml hmv hmin1
 go_enter Tryz.func169,Tryz.ntmps169
 go_wp2_with (simp only [hov])
 go_region_law_o (refine step_copy_runI rfl _ _ 61 61 rfl (.slice (some ⟨g,i+1,none⟩) (n-i) (c-(i+1))) (.slice (some ⟨g,i,none⟩) (n+1-i) (c-i)) (by simp [Act.eval,Act.put]) (by simp [Act.eval,Act.put]) (hcp1 3 (c-(i+1)) (c-i)) ?_)
 go_wp2_with (at_builtin;refine wpList_copy_runI _ rfl _ _ 61 61 rfl _ _ rfl rfl (hcp2 _ rfl _ _) ?_)
 go_ret
 exact ⟨rfl,_,rfl,rfl,rfl,rfl,rfl⟩
set_option maxHeartbeats 4000000 in
theorem insI_grow (w:World) (g n c i h vc:Nat) (olds news:List Value) (hi:i<n) (hn:n<=1000) (hnc:n<=c) (hroom:c<n+1) (hol:olds.length=n*1) (hnl:news.length=1) (h1o:∀ v∈olds,v.oneCell'=true) (h1n:∀ v∈news,v.oneCell'=true)
  (cur:Array Value) (hg:w.heap[g]?=some (.cells cur 3 (0,0))) (hold0:∀ q,q<n*1->cur[q]?=olds[q]?) (hcu:Array Value) (hh:w.heap[h]?=some (.cells hcu 3 (0,0))) (hnew:∀ q,q<1->hcu[q]?=news[q]?) :
  Calls Tryz.prog 169 #[.slice (some ⟨g,0,none⟩) n c,.int .i64 i,.slice (some ⟨h,0,none⟩) 1 vc] w fun ed w'=>∃ (g' c':Nat) (cur':Array Value),ed=.returned (.slice (some ⟨g',0,none⟩) (n+1) c')/\w'.heap[g']?=some (.cells cur' 3 (0,0))/\cur'.size=c'*1/\n+1<=c'/\c'<=maxLen /\
  (∀ q,q<(n+1)*1->cur'[q]?=(olds.take (i*1)++news++olds.drop (i*1))[q]?)/\((some g)=some g'∨w.heap.size<=g')/\(∀ b,b<w.heap.size->(some g)≠some b->w'.heap[b]?=w.heap[b]?)/\w'.os=w.os/\w'.tape=w.tape/\w'.output=w.output/\w.heap.size<=w'.heap.size:=by
 have mixed:Tryz.prog.follows .mixedOrders=true:=rfl
 obtain ⟨i0,hi0,hzs,hzb,hzz⟩:=int_info
 have t33:Tryz.prog.underlying 61=some (.slice 3):=rfl
 have t3:Tryz.prog.underlying 3=some (.int .i64):=rfl
 have t4:Tryz.prog.underlying 4=some .bool:=rfl
 have u33:=run_underlying t33
 have u3:=run_underlying t3
 have u4:=run_underlying t4
 have a33:=isAgg_of t33
 have a3:=isAgg_of t3
 have a4:=isAgg_of t4
 simp only [TypeDesc.isRow] at a33 a3 a4
 have z75:∀ w,(Go.sizeOf 3).run Tryz.prog w=.ok 1 w:=fun w=>by rw [sizeOf_of hi0,hzs]
 obtain ⟨i33,e33,s33,y33⟩:∃ i:TypeInfo,Tryz.prog.info? 61=some i/\i.size=1/\i.zero=some (.slice none 0 0):=⟨_,rfl,rfl,rfl⟩
 obtain ⟨i3,e3,q3,y3⟩:∃ i:TypeInfo,Tryz.prog.info? 3=some i/\i.size=1/\i.zero=some (.int .i64 0):=⟨_,rfl,rfl,rfl⟩
 obtain ⟨i4,e4,q4,y4⟩:∃ i:TypeInfo,Tryz.prog.info? 4=some i/\i.size=1/\i.zero=some (.bool false):=⟨_,rfl,rfl,rfl⟩
 have z33:∀ w,(Go.sizeOf 61).run Tryz.prog w=.ok 1 w:=fun w=>by rw [sizeOf_of e33,s33]
 have z3:∀ w,(Go.sizeOf 3).run Tryz.prog w=.ok 1 w:=fun w=>by rw [sizeOf_of e3,q3]
 have z4:∀ w,(Go.sizeOf 4).run Tryz.prog w=.ok 1 w:=fun w=>by rw [sizeOf_of e4,q4]
 have v33:=zero_of e33 y33
 have v3:=zero_of e3 y3
 have v4:=zero_of e4 y4
 have v75:=zero_of hi0 hzz
 have hz2:¬ ((i:Int)=(n:Int)):=by omega
 have hz3:(c:Int)<(n:Int)+1:=by omega
 have hgl:g<w.heap.size:=(Array.getElem?_eq_some_iff.1 hg).1
 have hhl:h<w.heap.size:=(Array.getElem?_eq_some_iff.1 hh).1
 have hkk:(n:Int)+1-(i:Int)=((n+1-i:Nat):Int):=by omega
 have hik:i+(n+1-i)=n+1:=by omega
 have htk:(olds.take (i*1)).length=i*1:=by rw [List.length_take,hol];omega
 have hold:(Builtin.firstCells i0.size i (.slice (some ⟨g,0,none⟩) i c)).run Tryz.prog w.drew=.ok (olds.take (i*1)).toArray w.drew:=by
  rw [hzs]
  exact run_firstCells_some w.drew 1 i ⟨g,0,none⟩ i c (olds.take (i*1)) htk (fun j v hj=>by
   rw [Addr.add_lit,Nat.zero_add]
   have hjl:=(List.getElem?_eq_some_iff.1 hj).1
   refine (cell_of (w:=w.drew) hg j).trans ?_
   rw [hold0 j (by omega)]
   rw [List.getElem?_take] at hj
   split at hj
   ·exact hj
   ·cases hj)
 have hrz:∀ ty,(Builtin.append_ #[61,3] ty #[.slice (some ⟨g,0,none⟩) i c,.int .i64 ((n:Int)+1-(i:Int))]).run Tryz.prog w =
   .ok (.slice (some ⟨w.heap.size,0,none⟩) (n+1) (grownCap w (n+1) c 3)) (w.drew.alloc (.cells ((olds.take (i*1)).toArray++Builtin.zeroCells (Value.int .i64 0).cells (n+1-i)++Builtin.zeroCells (Value.int .i64 0).cells (grownCap w (n+1) c 3-(n+1))) 3)):=fun ty=>by
  have h:=Lib.run_append_grow_zeros w 61 3 ty 3 i0 _ .i64 .i64 t33 t3 hi0 hzz (some ⟨g,0,none⟩) i c (olds.take (i*1)) hold (n+1-i) (by omega) (by omega) (by omega) (by omega) (by rw [hzb];omega) (by rw [hzb,hik];exact growslice_fits hroom (by omega))
  rw [hik] at h
  rw [hkk]
  exact h
 obtain ⟨G,hG⟩:∃ G,G=grownCap w (n+1) c 3:=⟨_,rfl⟩
 have hGn:n+1<=G:=by rw [hG];exact grownCap_ge w _ _ _
 have hGm:G<=maxLen:=by rw [hG];exact grownCap_le_maxLen w (n+1) c 3 (by unfold maxLen;omega)
 have hG63:G<=9223372036854775807:=by have:=hGm;unfold maxLen at this;omega
 rw [<- hG] at hrz
 obtain ⟨ROW,hROW⟩:∃ ROW:Array Value,ROW=(olds.take (i*1)).toArray++Builtin.zeroCells (Value.int .i64 0).cells (n+1-i)++Builtin.zeroCells (Value.int .i64 0).cells (G-(n+1)):=⟨_,rfl⟩
 rw [<- hROW] at hrz
 have hzc:(Value.int .i64 0).cells.size=1:=by kernel_rfl
 have hRs:ROW.size=G*1:=by
  rw [hROW,Array.size_append,Array.size_append,zc_size,zc_size,hzc]
  simp only [List.size_toArray,htk]
  omega
 have hR0:∀ q,q<i*1->ROW[q]?=olds[q]?:=fun q hq=>by
  rw [hROW,Array.getElem?_append_left (by rw [Array.size_append,List.size_toArray,htk];omega),Array.getElem?_append_left (by rw [List.size_toArray,htk];omega)]
  have hq':q<i:=by omega
  simp [List.getElem?_take,hq']
 obtain ⟨W1,hW1⟩:∃ W1,W1=w.drew.alloc (.cells ROW 3):=⟨_,rfl⟩
 have r1:W1.heap[w.heap.size]?=some (.cells ROW 3 (0,0)):=by rw [hW1];exact heap_alloc_new _ _
 have o1:∀ b,b<w.heap.size->W1.heap[b]?=w.heap[b]?:=fun b hb=>by rw [hW1];exact Below.heap_alloc _ _ _ hb
 have o1b:W1.os=w.os/\W1.tape=w.tape/\W1.output=w.output/\w.heap.size<=W1.heap.size:=by rw [hW1];exact ⟨rfl,rfl,rfl,by simp [World.alloc]⟩
 obtain ⟨B,hB⟩:∃ B,B=w.heap.size:=⟨_,rfl⟩
 rw [<- hB] at hrz r1 o1
 rw [<- hW1] at hrz
 have hmin2:Nat.min (n+1-i) 1=1:=by simp only [Nat.min_def];split<;>omega
 have hh1:W1.heap[h]?=some (.cells hcu 3 (0,0)):=(o1 h (by omega)).trans hh
 have hg1:W1.heap[g]?=some (.cells cur 3 (0,0)):=(o1 g (by omega)).trans hg
 have hcpA:∀ (W:World),W.heap=W1.heap->∀ ty dc,(Builtin.copy_ #[61,61] ty #[.slice (some ⟨B,i*1,none⟩) (n+1-i) dc,.slice (some ⟨h,0,none⟩) 1 vc]).run Tryz.prog W=.ok (goInt (Nat.min 1 (n+1-i))) (W.setCells B (i*1) news):=fun W hWh ty dc =>
  run_copy_any W _ _ ty 3 B (i*1) (n+1-i) dc ⟨h,0,none⟩ 1 vc news i0 t33 hi0 (by rw [show Nat.min 1 (n+1-i)=1 by simp only [Nat.min_def];split<;>omega,hzs,hnl])
   (fun j v hj=>by
    rw [Addr.add_lit,Nat.zero_add,cell_of (w:=W) (by rw [hWh];exact hh1),hnew j (by have:=(List.getElem?_eq_some_iff.1 hj).1;omega)];exact hj)
   (fun j hj=>by rw [cell_of (w:=W) (by rw [hWh];exact r1),Array.getElem?_eq_getElem (by omega)];rfl) (fun j hj=>frozen_of (w:=W) (by rw [hWh];exact r1) _) h1n
 obtain ⟨ROW2,d1,d2,d3,d4⟩:=setCells_heap B news (i*1) W1 (cur:=ROW) (e:=3) (fr:=(0,0)) r1
 have o2:=oth_setCells B news (i*1) W1
 obtain ⟨W2,hW2⟩:∃ W2,W2=W1.setCells B (i*1) news:=⟨_,rfl⟩
 rw [<- hW2] at d1 o2
 have hg2:W2.heap[g]?=some (.cells cur 3 (0,0)):=(o2.block g (by have:=o1b.2.2.2;omega) (by omega)).trans hg1
 obtain ⟨mv,hmv⟩:∃ mv,mv=olds.drop (i*1):=⟨_,rfl⟩
 have hml:mv.length=(n-i)*1:=by rw [hmv,List.length_drop,hol];omega
 have h1m:∀ v∈mv,v.oneCell'=true:=fun v hv=>h1o v (by rw [hmv] at hv;exact List.mem_of_mem_drop hv)
 have hcpB:∀ (W:World),W.heap=W2.heap->∀ ty dc sc,(Builtin.copy_ #[61,61] ty #[.slice (some ⟨B,(i+1)*1,none⟩) (n-i) dc,.slice (some ⟨g,i*1,none⟩) (n-i) sc]).run Tryz.prog W=.ok (goInt (Nat.min (n-i) (n-i))) (W.setCells B ((i+1)*1) mv):=fun W hWh ty dc sc =>
  run_copy_any W _ _ ty 3 B ((i+1)*1) (n-i) dc ⟨g,i*1,none⟩ (n-i) sc mv i0 t33 hi0 (by rw [show Nat.min (n-i) (n-i)=n-i by simp only [Nat.min_def];split<;>omega,hzs,hml])
   (fun j v hj=>by
    have hlt:=(List.getElem?_eq_some_iff.1 hj).1
    rw [Addr.add_lit]
    refine (cell_of (w:=W) (by rw [hWh];exact hg2) _).trans ?_
    rw [hmv,List.getElem?_drop] at hj
    rw [hold0 _ (by omega)];exact hj)
   (fun j hj=>by rw [cell_of (w:=W) (by rw [hWh];exact d1),Array.getElem?_eq_getElem (by omega)];rfl) (fun j hj=>frozen_of (w:=W) (by rw [hWh];exact d1) _) h1m
 have fin:Hid (∀ W:World,W.heap=W2.heap->W.os=W1.os->W.tape=W1.tape->W.output=W1.output->∃ (g' c':Nat) (cur':Array Value),Ending.returned (.slice (some ⟨B,0,none⟩) (n+1) G)=.returned (.slice (some ⟨g',0,none⟩) (n+1) c')/\(W.setCells B ((i+1)*1) mv).heap[g']?=some (.cells cur' 3 (0,0))/\cur'.size=c'*1/\n+1<=c'/\c'<=maxLen /\
  (∀ q,q<(n+1)*1->cur'[q]?=(olds.take (i*1)++news++olds.drop (i*1))[q]?)/\(some g=some g'∨w.heap.size<=g')/\(∀ b,b<w.heap.size->some g≠some b->(W.setCells B ((i+1)*1) mv).heap[b]?=w.heap[b]?)/\(W.setCells B ((i+1)*1) mv).os=w.os/\(W.setCells B ((i+1)*1) mv).tape=w.tape/\(W.setCells B ((i+1)*1) mv).output=w.output/\w.heap.size<=(W.setCells B ((i+1)*1) mv).heap.size):=by
  intro W e1 e2 e3 e4
  obtain ⟨cur2,q1,q2,q3,q4⟩:=setCells_heap B mv ((i+1)*1) W (cur:=ROW2) (e:=3) (fr:=(0,0)) (by rw [e1];exact d1)
  have o3:=oth_setCells B mv ((i+1)*1) W
  refine ⟨B,G,cur2,rfl,q1,by rw [q2,d2,hRs],hGn,hGm,fun q hq=>?_,.inr (by omega),fun b hb _=>?_,o3.os.trans (e2.trans o1b.1),o3.tape.trans (e3.trans o1b.2.1),o3.output.trans (e4.trans o1b.2.2.1),Nat.le_trans o1b.2.2.2 (Nat.le_trans o2.size (by rw [<- e1];exact o3.size))⟩
  ·have htn:(olds.take (i*1)++news).length=i*1+1:=by rw [List.length_append,htk,hnl]
   by_cases h1:q<i*1
   ·rw [List.getElem?_append_left (by omega),List.getElem?_append_left (by omega),List.getElem?_take,if_pos h1,q3 q (by omega),d3 q (by omega),hR0 q h1]
   ·by_cases h2:q<i*1+1
    ·obtain ⟨t,rfl⟩:∃ t,q=i*1+t:=⟨q-i*1,by omega⟩
     have htl:t<news.length:=by omega
     rw [List.getElem?_append_left (by omega),List.getElem?_append_right (by omega),htk,Nat.add_sub_cancel_left,q3 _ (by omega),d4 t _ (List.getElem?_eq_getElem htl) (by omega),List.getElem?_eq_getElem htl]
    ·obtain ⟨t,rfl⟩:∃ t,q=i*1+1+t:=⟨q-(i*1+1),by omega⟩
     have htl:t<mv.length:=by omega
     have e5:=q4 t _ (List.getElem?_eq_getElem htl) (by omega)
     rw [show (i+1)*1+t=i*1+1+t by omega] at e5
     rw [List.getElem?_append_right (by omega),htn,Nat.add_sub_cancel_left,e5,<- hmv,List.getElem?_eq_getElem htl]
  ·have hb1:b<W1.heap.size:=by have:=o1b.2.2.2;omega
   rw [o3.block b (by rw [e1];exact Nat.lt_of_lt_of_le hb1 o2.size) (by omega),e1,o2.block b hb1 (by omega),o1 b (by omega)]
 have hw1:IntKind.i64.wrap ((i:Int)+1)=(i:Int)+1:=by rw [IntKind.wrap_i64];omega
 have hw2:IntKind.i64.wrap ((n:Int)+1)=(n:Int)+1:=by rw [IntKind.wrap_i64];omega
 have hw3:IntKind.i64.wrap ((n:Int)+1-(i:Int))=(n:Int)+1-(i:Int):=by rw [IntKind.wrap_i64];omega
 have hb1:(0:Int)<=(i:Int)+1:=by omega
 have hb0:(0:Int)<=(n:Int)+1:=by omega
 have hin:i<=n:=by omega
 have htn:((i:Int)+1).toNat=i+1:=by omega
 have htn2:((n:Int)+1).toNat=n+1:=by omega
 have hb2:¬ (G=i+1):=by omega
 have hb5:¬ (G=i):=by omega
 have hb3:(i:Int)<=(n:Int)+1:=by omega
 have hb4:¬ (c=i):=by omega
 simp only [Nat.mul_one] at hrz hcpA hcpB fin hW2
 refine Calls.mono (R:=fun ed w'=>ed=.returned (.slice (some ⟨B,0,none⟩) (n+1) G)/\∃ W:World,w'=W.setCells B (i+1) mv/\W.heap=W2.heap/\W.os=W1.os/\W.tape=W1.tape/\W.output=W1.output) ?_ (fun ed w' ⟨h1,W,h2,h3,h4,h5,h6⟩=>by subst h1 h2;simpa only [Nat.mul_one] using fin.out W h3 h4 h5 h6)
 have hcpB':∀ (W:World),W.heap=W1.heap->∀ ty dc sc,(Builtin.copy_ #[61,61] ty #[.slice (some ⟨B,i+1,none⟩) (n-i) dc,.slice (some ⟨g,i,none⟩) (n-i) sc]).run Tryz.prog (W.setCells B i news).drew=.ok (goInt (Nat.min (n-i) (n-i))) (((W.setCells B i news).drew).setCells B (i+1) mv):=fun W hW ty dc sc=>hcpB _ (by rw [hW2];exact setCells_heap_eq hW B i news) ty dc sc
 have hfin:∀ W:World,W.heap=W1.heap->W.os=W1.os->W.tape=W1.tape->W.output=W1.output->((W.setCells B i news).drew).heap=W2.heap/\((W.setCells B i news).drew).os=W1.os/\((W.setCells B i news).drew).tape=W1.tape/\((W.setCells B i news).drew).output=W1.output:=fun W e1 e2 e3 e4=>by
  have o:=oth_setCells B news i W
  exact ⟨by rw [hW2];exact setCells_heap_eq e1 B i news,o.os.trans e2,o.tape.trans e3,o.output.trans e4⟩
 clear fin hW1 hW2 hB r1 d1 d2 d3 d4 o1 o1b o2 hg hh hh1 hg1 hg2 hold hold0 hnew hml hmv hR0 hRs hROW hG hcpB hkk hik htk
 go_enter Tryz.func169,Tryz.ntmps169
 go_wp2_with (first
  | (at_builtin;refine Lib.wpList_append_run _ rfl _ _ _ _ rfl _ _ rfl rfl _ _ (hrz _) ?_)
  | (at_builtin;refine wpList_copy_runI _ rfl _ _ 61 61 rfl _ _ rfl rfl (hcpA _ rfl _ _) ?_))
 go_region_law_o (refine step_copy_runI rfl _ _ 61 61 rfl (.slice (some ⟨B,i+1,none⟩) (n-i) (G-(i+1))) (.slice (some ⟨g,i,none⟩) (n-i) (c-i)) (by simp [Act.eval,Act.put]) (by simp [Act.eval,Act.put]) (hcpB' _ rfl 3 (G-(i+1)) (c-i)) ?_)
 go_wp2
 go_ret
 exact ⟨rfl,_,rfl,hfin _ rfl rfl rfl rfl⟩
theorem ins_int:InsCall Tryz.prog 169 3 1:=by
 intro w A n c i h vc olds news hi hnc hcm hn hol hnl h1o h1n hA0 hA ⟨hcu,hh,hnew⟩
 by_cases hin:i=n
 ·subst hin
  by_cases hroom:i+1<=c
  ·cases A with
   | none=>have:=hA0 rfl;omega
   | some g =>
    obtain ⟨hgh,cur,hg,hcur,hold⟩:=hA g rfl
    exact insI_end_room w g i c h vc olds news hroom hcm hol hnl h1n cur hg hcur hold hcu hh hnew
  ·exact insI_end_grow w A i c h vc olds news hn hnc (by omega) hol hnl h1n hA0 (fun g hg=>by obtain ⟨_,cur,h1,_,h2⟩:=hA g hg;exact ⟨cur,h1,h2⟩) hcu hh hnew
 ·have hlt:i<n:=by omega
  cases A with
  | none=>have:=hA0 rfl;omega
  | some g =>
   obtain ⟨hgh,cur,hg,hcur,hold⟩:=hA g rfl
   by_cases hroom:n+1<=c
   ·exact insI_shift w g n c i h vc olds news hlt hn hroom hcm hol hnl h1o h1n hgh cur hg hcur hold hcu hh hnew
   ·exact insI_grow w g n c i h vc olds news hlt hn hnc (by omega) hol hnl h1o h1n cur hg hold hcu hh hnew
theorem entI (args:Array Value) (w:World):(callFunc 169 args).run Tryz.prog w=.ok (.enter 169 args) w:=ent_of Tryz.func169 rfl rfl args w
theorem insI_ok (s:List Int) (i:Nat) (x:Int) (hi:i<=s.length/\s.length<=1000):FunOK Tryz.prog 169 3 [] [(0,k1 (oI s)),(1,kI i),(2,k1 (.ow tI (raw [eI x])))] (·=[(3,k1 (oI (s.insertIdx i x)))]):=by
 have h:=ins_fun ins_int (by kernel_rfl) (by decide) entI (typ 0 eI s) i (eI x) hi.1 hi.2
 rw [typ_ins _ _ _ _ _ hi.1] at h
 exact h
def insI_c:Con Tryz.prog:=⟨169,3,[.give,.lend,.give],[],List Int×Nat×Int,some fun b=>b.2.1<=b.1.length/\b.1.length<=1000,fun b=>[(0,k1 (oI b.1)),(1,kI b.2.1),(2,k1 (.ow tI (raw [eI b.2.2])))],fun b=>[(3,k1 (oI (b.1.insertIdx b.2.1 b.2.2)))],[],fun b h=>insI_ok b.1 b.2.1 b.2.2 h⟩
end Go.Proofs.AI
namespace Go.Proofs.AI
open Go.RowKit Go.Proofs Go.Lib Go.Shelf
set_option linter.unusedVariables false
set_option linter.unusedSimpArgs false
set_option maxRecDepth 100000
theorem info_F:∃ (i:TypeInfo) (z:Value),Tryz.prog.info? 69=some i/\i.size=11/\0<i.bytes/\i.zero=some z/\(∀ v∈z.cells,v.oneCell'=true)/\z.cells.size=11:=⟨_,_,rfl,rfl,by decide,rfl,by decide,rfl⟩
set_option maxHeartbeats 4000000 in
theorem del_F:DelCall Tryz.prog 137 69 11:=by
 intro w g n cap i j cur hg hcur hn hcap hij hj hone
 have mixed:Tryz.prog.follows .mixedOrders=true:=rfl
 obtain ⟨i0,zz,hi0,hzs,hzb,hzz,hz1c,hzc⟩:=info_F
 have t33:Tryz.prog.underlying 36=some (.slice 69):=rfl
 have t3:Tryz.prog.underlying 3=some (.int .i64):=rfl
 have t4:Tryz.prog.underlying 4=some .bool:=rfl
 have a33:=isAgg_of t33
 have a3:=isAgg_of t3
 have a4:=isAgg_of t4
 simp only [TypeDesc.isRow] at a33 a3 a4
 have z75:∀ w,(Go.sizeOf 69).run Tryz.prog w=.ok 11 w:=fun w=>by rw [sizeOf_of hi0,hzs]
 obtain ⟨i33,e33,s33,y33⟩:∃ i:TypeInfo,Tryz.prog.info? 36=some i/\i.size=1/\i.zero=some (.slice none 0 0):=⟨_,rfl,rfl,rfl⟩
 obtain ⟨i3,e3,q3,y3⟩:∃ i:TypeInfo,Tryz.prog.info? 3=some i/\i.size=1/\i.zero=some (.int .i64 0):=⟨_,rfl,rfl,rfl⟩
 obtain ⟨i4,e4,q4,y4⟩:∃ i:TypeInfo,Tryz.prog.info? 4=some i/\i.size=1/\i.zero=some (.bool false):=⟨_,rfl,rfl,rfl⟩
 have z33:∀ w,(Go.sizeOf 36).run Tryz.prog w=.ok 1 w:=fun w=>by rw [sizeOf_of e33,s33]
 have z3:∀ w,(Go.sizeOf 3).run Tryz.prog w=.ok 1 w:=fun w=>by rw [sizeOf_of e3,q3]
 have z4:∀ w,(Go.sizeOf 4).run Tryz.prog w=.ok 1 w:=fun w=>by rw [sizeOf_of e4,q4]
 have v33:=zero_of e33 y33
 have v3:=zero_of e3 y3
 have v4:=zero_of e4 y4
 have v75:=zero_of hi0 hzz
 have hm:cap<=9223372036854775807:=by unfold maxLen at hcap;omega
 obtain ⟨news,hnl,hnews⟩:∃ news:List Value,news.length=(n-j)*11/\∀ t,t<(n-j)*11->news[t]?=cur[j*11+t]?:=by
  refine ⟨(List.range ((n-j)*11)).map fun t=>cur.getD (j*11+t) undef,by simp,fun t ht=>?_⟩
  rw [List.getElem?_map,List.getElem?_range ht]
  simp [Array.getD_eq_getD_getElem?,show j*11+t<cur.size by omega]
 obtain ⟨A,hA,hsrc⟩:∃ A:Addr,(if cap=j then some (⟨g,0,none⟩:Addr) else some ⟨g,j*11,none⟩)=some A/\Hid (∀ t u,news[t]?=some u->w.drew.cell? (A.add t)=some u):=by
  by_cases h:cap=j
  ·refine ⟨⟨g,0,none⟩,by simp [h],fun t u hu=>?_⟩
   have ht:=(List.getElem?_eq_some_iff.1 hu).1
   rw [hnl] at ht
   omega
  ·refine ⟨⟨g,j*11,none⟩,by simp [h],fun t u hu=>?_⟩
   have ht:=(List.getElem?_eq_some_iff.1 hu).1
   rw [hnl] at ht
   rw [hnews t ht] at hu
   rw [Addr.add_lit]
   exact (cell_of (w:=w) hg _).trans hu
 have s1:Hid (news.length=(n-j)*11):=hnl
 have s2:Hid (∀ u∈news,u.oneCell'=true):=by
  intro u hu
  obtain ⟨t,ht⟩:=List.getElem?_of_mem hu
  have hlt:=(List.getElem?_eq_some_iff.1 ht).1
  rw [hnl] at hlt
  rw [hnews t hlt] at ht
  exact hone _ u (by omega) ht
 have s3:Hid (∀ t,t<news.length->(w.drew.cell? ⟨g,0+i*11+t,none⟩).isSome=true/\w.drew.frozen? ⟨g,0+i*11+t,none⟩=false):=by
  intro t ht
  rw [hnl] at ht
  refine ⟨?_,frozen_of (w:=w.drew) hg _⟩
  rw [cell_of (w:=w.drew) hg,Array.getElem?_eq_getElem (by omega)]<;>rfl
 obtain ⟨W1,hW1⟩:∃ W1,W1=w.drew.setCells g (0+i*11) news:=⟨_,rfl⟩
 obtain ⟨cur1,c1,c2,c3,c4⟩:=setCells_heap g news (0+i*11) w.drew (cur:=cur) (e:=69) (fr:=(0,0)) hg
 have o1:Oth w W1 g:=by rw [hW1];exact (Oth.drew w g).trans (oth_setCells g _ _ _)
 rw [<- hW1] at c1
 have hclr:∃ zs:List Value,(Builtin.clear_ #[36] 0 #[.slice (some ⟨g,(i+(n-j))*11,none⟩) (n-(i+(n-j))) (cap-(i+(n-j)))]).run Tryz.prog W1=.ok (.tuple #[]) (W1.setCells g ((i+(n-j))*11) zs)/\zs.length=(n-(i+(n-j)))*11 :=
  hzc▸run_clear_any W1 36 69 0 _ t33 v75 hz1c g ((i+(n-j))*11) (n-(i+(n-j))) (cap-(i+(n-j))) (by omega) (fun t ht=>by
   have ht:t<(n-(i+(n-j)))*11:=by rw [hzc] at ht;exact ht
   rw [cell_of c1,Array.getElem?_eq_getElem (by omega)]<;>rfl) (fun t ht=>frozen_of c1 _)
 obtain ⟨zs,hz1,hzl⟩:=hclr
 have hcl:∀ ty,(Builtin.clear_ #[36] ty #[.slice (some ⟨g,(i+(n-j))*11,none⟩) (n-(i+(n-j))) (cap-(i+(n-j)))]).run Tryz.prog W1=.ok (.tuple #[]) (W1.setCells g ((i+(n-j))*11) zs):=fun ty=>hz1
 obtain ⟨W2,hW2⟩:∃ W2,W2=W1.setCells g ((i+(n-j))*11) zs:=⟨_,rfl⟩
 rw [<- hW2] at hcl
 obtain ⟨cur2,d1,d2,d3,d4⟩:=setCells_heap g zs ((i+(n-j))*11) W1 c1
 rw [<- hW2] at d1
 have o2:Oth w W2 g:=by rw [hW2];exact o1.trans (oth_setCells g _ _ _)
 have fin:Hid (∃ cur':Array Value,W2.heap[g]?=some (.cells cur' 69 (0,0))/\cur'.size=cur.size/\(∀ q,q<i*11->cur'[q]?=cur[q]?)/\(∀ q,i*11<=q->q<(n-(j-i))*11->cur'[q]?=cur[q+(j-i)*11]?)/\Oth w W2 g):=by
  refine ⟨cur2,d1,by rw [d2,c2],fun q hq=>?_,fun q h1 h2=>?_,o2⟩
  ·rw [d3 q (by omega),c3 q (by omega)]
  ·rw [d3 q (by omega)]
   obtain ⟨t,rfl⟩:∃ t,q=i*11+t:=⟨q-i*11,by omega⟩
   have ht:t<(n-j)*11:=by omega
   have hsome:cur[j*11+t]?=some (cur[j*11+t]'(by omega)):=Array.getElem?_eq_getElem _
   have:=c4 t _ ((hnews t ht).trans hsome) (by omega)
   rw [show 0+i*11+t=i*11+t by omega] at this
   rw [this,show i*11+t+(j-i)*11=j*11+t by omega,hsome]
 have hW:Hid (W1=w.drew.setCells g (0+i*11) news):=hW1
 have hic:i<=cap:=by omega
 have hjc:j<=cap:=by omega
 have hne:¬ ((i:Int)=(j:Int)):=by omega
 clear hW1 hW2 hz1 hnews hnl c1 c2 c3 c4 d1 d2 d3 d4 o1 o2 hone hzl hg
 go_enter Tryz.func137,Tryz.ntmps137
 go_wp2_with fail
 go_region_law_o (refine step_append_room rfl (.tmp 22) (.tmp 25) 36 rfl 69 i0 11 t33 hi0 hzs g 0 i cap (by simp [Act.eval,Act.put]) A (n-j) (cap-j) news (by simp [Act.eval,Act.put]) s1.out hsrc.out s2.out (by omega) s3.out ?_;rw [<- hW.out])
 go_wp2
 go_ret
 exact ⟨by rw [show n-(j-i)=i+(n-j) by omega]<;>rfl,fin.out⟩
theorem ent_delF (args:Array Value) (w:World):(callFunc 137 args).run Tryz.prog w=.ok (.enter 137 args) w:=ent_of Tryz.func137 rfl rfl args w
theorem delF_ok (s:List FTx) (i:Nat) (hi:i<s.length):FunOK Tryz.prog 137 3 [] [(0,k1 (oFTxs s)),(1,kI i),(2,kI ((i:Int)+1))] (·=[(3,k1 (oFTxs (s.eraseIdx i)))]):=by
 have h:=del_fun del_F (by kernel_rfl) ent_delF (typ dFTx eFTxO s) i (i+1) (by omega) (by show i+1<=s.length;omega)
 rw [typ_del _ _ _ _ hi] at h
 exact h
def delF_c:Con Tryz.prog:=⟨137,3,[.give,.lend,.lend],[],List FTx×Nat,some fun b=>b.2<b.1.length,fun b=>[(0,k1 (oFTxs b.1)),(1,kI b.2),(2,kI ((b.2:Int)+1))],fun b=>[(3,k1 (oFTxs (b.1.eraseIdx b.2)))],[],fun b h=>delF_ok b.1 b.2 h⟩
end Go.Proofs.AI
