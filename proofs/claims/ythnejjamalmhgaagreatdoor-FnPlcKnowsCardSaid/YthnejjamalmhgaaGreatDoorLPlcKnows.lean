/- What the function of this law does, in data. Conditions: none. -/
import Derived.KernelRfl
import Derived.Test.YthnejjamalmhgaaGreatDoorK05
namespace Go.Proofs.AI
open Go.RowKit Go.Proofs
set_option linter.unusedVariables false
set_option linter.unusedSimpArgs false
set_option maxRecDepth 100000
theorem laws_jaIn_ok (xs:List Int) (n:Int):FunOK Tryz.prog 36 2 [] [(0,k1 (sI xs)),(1,kI n)] (·=[(2,kB (xs.any fun x=>x==n))]):=by
 refine fun_to (E:=⟨tab,ctOf [],18,[],[(0,[0,1]),(1,[0,1,5]),(2,[0,1,5,9]),(3,[0,1,5]),(4,[0,1,5,17]),(5,[4]),(6,[4])],[(0,⟨Nat,fun x=>[(0,(k1 (.sh 3 (typ (0:Int) eI xs)))),(1,(k1 (.n .i64 n))),(5,(k1 (.n .i64 (x:Int))))]⟩)],[],[],[]⟩) tab_ok mixed Tryz.func36 rfl Tryz.ntmps36 (rvs:=[.tmp 4]) Tryz.results36 rfl fun hl=>?_
 refine cast (show (∃ (pre:Nat->Prop),∃ (μ:Nat->Nat),∃ (x0:Nat),(q_I xs xs/\n=n/\i_0=zi x0)/\pre x0/\∀ (x:Nat),pre x->(decide (zi x<zi xs.length)=true->(i_0<=zi x/\zi x<zi xs.length)/\((g_Int xs x==n)=true->true=xs.any fun (x:Int)=>x==n)/\((g_Int xs x==n)=false->∃ (y:Nat),(q_I xs xs/\n=n/\wr_ ((zi x)+i_1)=zi y)/\pre y/\μ y<μ x))/\(decide (zi x<zi xs.length)=false->false=xs.any fun (x:Int)=>x==n))=_ by kernel_rfl) ?_
 delta i_0 i_1 wr_ g_Int zi t_I q_I
 have hx:xs.length<=9223372036854775807:=hl.1 _ (List.mem_singleton.2 rfl)
 simp only [zza,true_and,and_true,and_self,ne_eq,cI_app,cWrtO_app,cWrtS_app,cWrtO_1,cItemO_1,opr_ex,zcast,frz_nil,nil_map]
 refine ⟨fun i=>i<=xs.length/\∀ j,j<i->(xs.getD j 0==n)=false,⟨by omega,fun j hj=>absurd hj (Nat.not_lt_zero _)⟩,fun i=>xs.length-i,fun i hp=>?_⟩
 obtain ⟨h1,h2⟩:=hp
 refine ⟨fun hlt=>⟨by omega,hlt,fun e=>?_,fun e=>⟨i+1,wrapN (by omega),⟨by omega,below_succ h2 (by simpa using e)⟩,by simp only;omega⟩⟩,fun hge=>?_⟩
 ·exact (any_hit (p:=fun x=>x==n) (d:=0) (i:=i) (by omega) (by simpa using e)).symm
 ·exact (any_miss (p:=fun x=>x==n) (d:=0) fun j hj=>h2 j (by omega)).symm
def laws_jaIn_c:Con Tryz.prog:=con0 [.lend,.lend] fun b:List Int×Int=>laws_jaIn_ok (b.1) (b.2)
end Go.Proofs.AI
namespace Go.Proofs.AI
open Go.RowKit Go.Proofs
set_option linter.unusedVariables false
set_option linter.unusedSimpArgs false
set_option maxRecDepth 100000
theorem impl_DiskOf_ok (d:Disk) (tx:Int):FunOK Tryz.prog 27 2 [] [(0,kDiskS d),(1,kI tx)] (·=[(2,kI (if diskB d=true then ofN d.notes tx else 0))]):=by
 refine fun_to (E:=⟨tab,ctOf [impl_DiskOk_c,impl_of_c],11,[],[(0,[1,2]),(1,[1,2,7]),(2,[4]),(3,[4])],[],[],[],[]⟩) tab_ok mixed Tryz.func27 rfl Tryz.ntmps27 (rvs:=[.tmp 4]) Tryz.results27 rfl fun hl=>?_
 refine cast (show (∃ (b:Disk),(q_e d.notes b.notes/\d.safe=b.safe)/\((!diskB b)=true->i_0=if diskB d=true then ofN d.notes tx else i_0)/\((!diskB b)=false->∃ (b:Disk×Int),((q_e d.notes b.1.notes/\d.safe=b.1.safe)/\tx=b.2)/\ofN b.1.notes b.2=if diskB d=true then ofN d.notes tx else i_0))=_ by kernel_rfl) ?_
 delta i_0 t_e q_e
 simp only [zza,zzb,true_and,and_true,and_self,ne_eq,cI_app,cWrtO_app,cWrtS_app,cWrtO_1,cItemO_1,opr_ex,zcast,frz_nil,nil_map,Option.getD_none,Option.getD_some]
 refine ⟨fun h=>?_,fun h=>?_⟩
 ·have h:diskB d=false:=by simpa only [Bool.not_eq_true'] using h
  rw [if_neg (by rw [h];decide)]
 ·have h:diskB d=true:=by simpa only [Bool.not_eq_false'] using h
  rw [if_pos h]
def impl_DiskOf_c:Con Tryz.prog:=con0 [.lend,.lend] fun b:Disk×Int=>impl_DiskOf_ok (b.1) (b.2)
theorem impl_DiskOpen_ok (d:Disk):FunOK Tryz.prog 37 1 [] [(0,kDiskS d)] (·=[(1,k1 (oI (openD d)))]):=by
 refine fun_to (E:=⟨tab,ctOf [impl_DiskOk_c,impl_LogDisk_open_c],8,[],[(0,[1,7]),(1,[1,5,7]),(2,[2,7]),(3,[2,7])],[],[],[],[]⟩) tab_ok mixed Tryz.func37 rfl Tryz.ntmps37 (rvs:=[.tmp 2]) Tryz.results37 rfl fun hl=>?_
 refine cast (show (∃ (b:Disk),(q_e d.notes b.notes/\d.safe=b.safe)/\((!diskB b)=true->(openD d).length=n_0)/\((!diskB b)=false->∃ (b:Disk),(q_e d.notes b.notes/\d.safe=b.safe)/\b.notes.length<=n_1000/\q_I (openK b.notes b.notes.length) (openD d)))=_ by kernel_rfl) ?_
 delta t_I q_I n_0 n_1000 t_e q_e
 simp only [zza,zzb,true_and,and_true,and_self,ne_eq,cI_app,cWrtO_app,cWrtS_app,cWrtO_1,cItemO_1,opr_ex,zcast,frz_nil,nil_map,Option.getD_none,Option.getD_some]
 refine ⟨fun h=>?_,fun h=>?_⟩
 ·simp at h;simp [openD,h]
 simp at h
 obtain ⟨g1,g2,g3,g4⟩:=diskB_small h
 simp only [openD,h,if_true]
 exact ⟨by omega,trivial⟩
def impl_DiskOpen_c:Con Tryz.prog:=con0 [.lend] fun b:Disk=>impl_DiskOpen_ok b
end Go.Proofs.AI
namespace Go.Proofs.AI
open Go.RowKit Go.Shelf Go.Proofs
set_option linter.unusedVariables false
set_option linter.unusedSimpArgs false
set_option maxRecDepth 100000
set_option maxHeartbeats 1000000 in
theorem clip_in (A:Option Addr) (len cap:Nat) (hcap:len<=cap) (hm:len<=9223372036854775807) (w:World) :
  Calls Tryz.prog 75 #[.slice A len cap] w fun e w'=>e=.returned (.slice A len len)/\w'=w:=by
 refine calls_of_wp Tryz.func75 rfl ?_
 simp only [Tryz.ntmps75,List.size_toArray,List.length_cons,List.length_nil,Nat.reduceAdd,Nat.reduceSub,Array.replicate_succ,Array.replicate_zero,List.push_toArray,List.append_toArray,List.nil_append,List.cons_append]
 go_wp2
 go_ret
 exact ⟨rfl,rfl⟩
theorem clip_ok (ns:List Note):FunOK Tryz.prog 75 1 [] [(0,k1 (sNotes ns))] (·=[(1,k1 (sNotes ns))]):=by
 refine FunOK.hand Tryz.func75 rfl rfl (by simp) fun args w I U B hs hI hk=>?_
 obtain ⟨a1,a2⟩:=hk 0 (k1 (sNotes ns)) (by simp [mk,up])
 obtain ⟨G0,hn⟩:=a2 0 _ rfl
 have hone:=hn.one
 obtain ⟨A,c,us,hv,h1,h2,h3,h4,h5⟩:=hn.sh_inv
 have hargs:args=#[.slice A ns.length c]:=by
  have q0:args.getD 0 undef=U 0 0:=a1.2.2
  refine Array.ext (by simpa using hs) fun j h1 h2=>?_
  have:j=0:=by
           have:j<1:=by simpa using h2
           omega
  subst this
  rw [Array.getD_eq_getD_getElem?,Array.getElem?_eq_getElem h1,hv] at q0;exact q0
 subst hargs
 refine Calls.mono (clip_in A ns.length c h1 h2 w) fun e w' ⟨g1,g2⟩=>?_
 subst g2
 refine ⟨_,fun _=>.slice A ns.length ns.length,g1,Below.refl _ _,⟨fun _ _=>rfl,rfl,rfl⟩,fun o x hx=>?_⟩
 cases o with
 | zero=>simp at hx;subst hx;exact ⟨_,rfl,.sh us (Nat.le_refl _) h2 h3 h4 h5⟩
 | succ o=>simp at hx
def clip_c:Con Tryz.prog:=con0 [.lend] fun b:List Note=>clip_ok b
end Go.Proofs.AI
namespace Go.Proofs.AI
open Go.RowKit Go.Proofs
set_option linter.unusedVariables false
set_option linter.unusedSimpArgs false
set_option maxRecDepth 100000
theorem impl_DiskFall_ok (d:Disk) (keep:Int):FunOK Tryz.prog 35 2 [] [(0,kDiskS d),(1,kI keep)] (·=[(2,kDiskS (fallD d keep))]):=by
 refine fun_to (E:=⟨tab,ctOf [impl_DiskOk_c,impl_LogDisk_copied_c,clip_c],37,[],[(0,[1,2,4,5,9,36]),(1,[1,2,4,5,8,9,36]),(2,[4,5,9,36]),(3,[1,2,4,5,9,36]),(4,[4,5,9,36]),(5,[4,5,9,36]),(6,[4,5,9,36]),(7,[4,5,9,36])],[],[(2,[(1,[9])]),(4,[(0,[5])])],[],[]⟩) tab_ok mixed Tryz.func35 rfl Tryz.ntmps35 (rvs:=[.cell 4 32]) Tryz.results35 rfl fun hl=>?_
 refine cast (show (∃ (b:Disk),(q_e d.notes b.notes/\d.safe=b.safe)/\((!diskB b)=true->cnRs (frozenRs nilR)=t_e (fallD d keep).notes/\i_0=(fallD d keep).safe)/\((!diskB b)=false->∃ (b:Disk),(q_e d.notes b.notes/\d.safe=b.safe)/\smallD b/\(i_0<=none.getD i_0/\none.getD i_0<=(some (wr_ (d.safe+if (if wr_ ((zi d.notes.length)-d.safe)<keep then wr_ ((zi d.notes.length)-d.safe) else keep)>i_0 then if wr_ ((zi d.notes.length)-d.safe)<keep then wr_ ((zi d.notes.length)-d.safe) else keep else i_0))).getD (zi b.notes.length)/\(some (wr_ (d.safe+if (if wr_ ((zi d.notes.length)-d.safe)<keep then wr_ ((zi d.notes.length)-d.safe) else keep)>i_0 then if wr_ ((zi d.notes.length)-d.safe)<keep then wr_ ((zi d.notes.length)-d.safe) else keep else i_0))).getD (zi b.notes.length)<=zi b.notes.length)/\∃ (b_1:List Note),cnRs (cutR (frozenRs (typ dNote eNoteO b.notes)) (none.getD i_0).toNat ((some (wr_ (d.safe+if (if wr_ ((zi d.notes.length)-d.safe)<keep then wr_ ((zi d.notes.length)-d.safe) else keep)>i_0 then if wr_ ((zi d.notes.length)-d.safe)<keep then wr_ ((zi d.notes.length)-d.safe) else keep else i_0))).getD (zi b.notes.length)).toNat)=t_e b_1/\q_e b_1 (fallD d keep).notes/\zi b_1.length=(fallD d keep).safe))=_ by kernel_rfl) ?_
 delta i_0 wr_ zi t_e q_e
 have hk:=hl
 simp only [zza,zzb,true_and,and_true,and_self,ne_eq,cI_app,cWrtO_app,cWrtS_app,cWrtO_1,cItemO_1,opr_ex,zcast,frz_nil,nil_map,Option.getD_none,Option.getD_some]
 refine ⟨fun h=>?_,fun h=>?_⟩
 ·simp at h;simp [fallD,h]
 simp at h
 obtain ⟨g1,g2,g3,g4⟩:=diskB_small h
 simp only [fallD,h,if_true]
 rw [IntWalk.i64_in ((d.notes.length:Int)-d.safe) (by omega)]
 have e:(if 0<(if (d.notes.length:Int)-d.safe<keep then (d.notes.length:Int)-d.safe else keep) then (if (d.notes.length:Int)-d.safe<keep then (d.notes.length:Int)-d.safe else keep) else 0)=max 0 (min keep (d.notes.length-d.safe)):=by
  split<;>split at *<;>omega
 rw [e,IntWalk.i64_in _ (by omega)]
 generalize hz:d.safe+max 0 (min keep (d.notes.length-d.safe))=z
 refine ⟨g1,by omega,by omega,by omega,d.notes.take z.toNat,?_,rfl,?_⟩
 ·rw [show Int.toNat 0=0 from rfl,cut_typ _ (by omega),List.drop_zero,cNoteS]
 ·rw [List.length_take];omega
def impl_DiskFall_c:Con Tryz.prog:=con0 [.lend,.lend] fun b:Disk×Int=>impl_DiskFall_ok (b.1) (b.2)
end Go.Proofs.AI
namespace Go.Proofs.AI
set_option linter.unusedVariables false
set_option linter.unusedSimpArgs false
theorem ofN_app (ns:List Note) (n:Note) (tx:Int):ofN (ns++[n]) tx=if n.tx=tx/\n.kind≠4 then n.kind else ofN ns tx:=by
 simp only [ofN,List.foldl_append,List.foldl_cons,List.foldl_nil,ofS]
theorem disk_add {d:Disk} {n:Note} {s:Int} (hd:diskB d=true) (hn:noteB n=true) (hl:d.notes.length≠120) (hs:s=d.safe∨s=(d.notes.length:Int)+1):diskB ⟨d.notes++[n],s⟩=true:=by
 obtain ⟨_,g2,g3,g4⟩:=diskB_small hd
 simp only [diskB,List.length_append,List.length_singleton,Bool.and_eq_true,decide_eq_true_eq,List.all_append,List.all_cons,List.all_nil,Bool.and_true,hn,and_true]
 refine ⟨⟨by omega,?_⟩,List.all_eq_true.2 g4⟩
 simp only [inR,Bool.and_eq_true,decide_eq_true_eq]
 omega
theorem msg_told {k p tx:Int} (hk:k=2∨k=3) (hp:inR p 1 3=true) (ht:inR tx 0 29=true):msgB ⟨k,p,0,tx,⟨0,0,0,0,0,0,0⟩⟩=true:=by
 have:(⟨0,0,0,0,0,0,0⟩:Opr)=dOpr:=rfl
 simp only [msgB,ht,this]
 rcases hk with rfl | rfl<;>simp [hp]
theorem msg_tx {m:Msg} (h:msgB m=true):inR m.tx 0 29=true:=by
 simp only [msgB,Bool.and_eq_true] at h;exact h.1
theorem fall_safe {d:Disk} (hd:diskB d=true) (h:d.safe=d.notes.length):fallD d 0=d:=by
 have e:d.safe+max 0 (min 0 ((d.notes.length:Int)-d.safe))=d.notes.length:=by omega
 simp only [fallD,hd,if_true,e]
 have:((d.notes.length:Int)).toNat=d.notes.length:=by omega
 rw [this,List.take_length,<- h]
end Go.Proofs.AI
namespace Go.Proofs.AI
open Go.RowKit Go.Proofs
set_option linter.unusedVariables false
set_option linter.unusedSimpArgs false
set_option maxRecDepth 100000
theorem laws_FnPlcKnows_ok (l:List Int) (hpre:okU l):FunOK Tryz.prog 8 1 [] [(0,k1 (sU l))] (·=[(1,kB true)]):=by
 refine fun_to (E:=⟨tab,ctOf [impl_PlcHear_c,spec_DrawPlcHear_c,laws_jaDisk_c,spec_DiskOk_c,spec_MsgOk_c,laws_jaOk_c,impl_DiskOf_c,impl_DiskOk_c,impl_DiskFall_c,laws_jaIn_c,impl_DiskOpen_c],119,[],[(0,[0]),(1,[0,13]),(2,[2]),(3,[3,4,5]),(4,[3,4,5,48]),(5,[2]),(6,[3,5,6,7,57,64,66]),(7,[3,5,6,7,8,57,64,66]),(8,[5,6,7,8,9,10,57,64,66,69,76,78]),(9,[2])],[],[(6,[(7,[64])]),(7,[(2,[68])]),(8,[(7,[76])]),(9,[(1000021,[])])],[],[]⟩) tab_ok mixed Tryz.func8 rfl Tryz.ntmps8 (rvs:=[.tmp 2]) Tryz.results8 rfl fun hl=>?_
 refine cast (show (let k_1:Prop:=∃ (b:Unit),True/\true=true;(decide ((zi l.length)>i_1048576)=true->true=true)/\(decide ((zi l.length)>i_1048576)=false->∃ (b:List Int),let k_3:Prop:=∃ (b_1:Disk),(q_e (hearDk (List.take n_2000 b)).1.notes b_1.notes/\(hearDk (List.take n_2000 b)).1.safe=b_1.safe)/\(∃ (b_2:Disk),(q_e (hearDk (List.take n_2000 b)).1.notes b_2.notes/\(hearDk (List.take n_2000 b)).1.safe=b_2.safe)/\((if false=true then !diskB b_1==diskB b_2 else diskB b_1==diskB b_2)=true->k_1)/\((if false=true then !diskB b_1==diskB b_2 else diskB b_1==diskB b_2)=false->false=true));let k_2:Prop:=∃ (b_4:Disk),(q_e (hearDk (List.take n_2000 b)).1.notes b_4.notes/\(hearDk (List.take n_2000 b)).1.safe=b_4.safe)/\(∃ (b_5:Disk),(q_e (hearDk (List.take n_2000 b)).1.notes b_5.notes/\(hearDk (List.take n_2000 b)).1.safe=b_5.safe)/\((if false=true then !diskB b_4==diskB b_5 else diskB b_4==diskB b_5)=true->k_1)/\((if false=true then !diskB b_4==diskB b_5 else diskB b_4==diskB b_5)=false->false=true));q_U l b/\okU b/\(decide (hearP (List.take n_2000 b)<i_1)=false->(decide (hearP (List.take n_2000 b)>i_3)=false->∃ (b_1:Disk),(q_e (hearDk (List.take n_2000 b)).1.notes b_1.notes/\(hearDk (List.take n_2000 b)).1.safe=b_1.safe)/\((!diskB b_1)=false->∃ (b_2:Msg),((hearM3 (List.take n_2000 b)).1.kind=b_2.kind/\(hearM3 (List.take n_2000 b)).1.to=b_2.to/\(hearM3 (List.take n_2000 b)).1.frm=b_2.frm/\(hearM3 (List.take n_2000 b)).1.tx=b_2.tx/\(hearM3 (List.take n_2000 b)).1.op.kind=b_2.op.kind/\(hearM3 (List.take n_2000 b)).1.op.who=b_2.op.who/\(hearM3 (List.take n_2000 b)).1.op.inn=b_2.op.inn/\(hearM3 (List.take n_2000 b)).1.op.code=b_2.op.code/\(hearM3 (List.take n_2000 b)).1.op.sec=b_2.op.sec/\(hearM3 (List.take n_2000 b)).1.op.fam=b_2.op.fam/\(hearM3 (List.take n_2000 b)).1.op.gen=b_2.op.gen)/\((!msgB b_2)=false->∃ (b_3:Disk×Int),((q_e (hearDk (List.take n_2000 b)).1.notes b_3.1.notes/\(hearDk (List.take n_2000 b)).1.safe=b_3.1.safe)/\(hearM3 (List.take n_2000 b)).1.tx=b_3.2)/\(((if diskB b_3.1=true then ofN b_3.1.notes b_3.2 else i_0) != i_1)=false->(((zi (hearDk (List.take n_2000 b)).1.notes.length)==i_120)=true->k_2)/\(((zi (hearDk (List.take n_2000 b)).1.notes.length)==i_120)=false->∃ (b_4:Int×Disk×Msg),(hearP (List.take n_2000 b)=b_4.1/\(q_e (hearDk (List.take n_2000 b)).1.notes b_4.2.1.notes/\(hearDk (List.take n_2000 b)).1.safe=b_4.2.1.safe)/\i_2=b_4.2.2.kind/\hearP (List.take n_2000 b)=b_4.2.2.to/\i_0=b_4.2.2.frm/\(hearM3 (List.take n_2000 b)).1.tx=b_4.2.2.tx/\i_0=b_4.2.2.op.kind/\i_0=b_4.2.2.op.who/\i_0=b_4.2.2.op.inn/\i_0=b_4.2.2.op.code/\i_0=b_4.2.2.op.sec/\i_0=b_4.2.2.op.fam/\i_0=b_4.2.2.op.gen)/\(∃ (b_5:Disk×Int),((cnRs (frozenRs (typ dNote eNoteO (hearD b_4.1 b_4.2.1 b_4.2.2).1.notes))=t_e b_5.1.notes/\(hearD b_4.1 b_4.2.1 b_4.2.2).1.safe=b_5.1.safe)/\i_0=b_5.2)/\(∃ (b_6:Int×Disk×Msg),(hearP (List.take n_2000 b)=b_6.1/\(q_e (fallD b_5.1 b_5.2).notes b_6.2.1.notes/\(fallD b_5.1 b_5.2).safe=b_6.2.1.safe)/\i_3=b_6.2.2.kind/\hearP (List.take n_2000 b)=b_6.2.2.to/\i_0=b_6.2.2.frm/\(hearM3 (List.take n_2000 b)).1.tx=b_6.2.2.tx/\i_0=b_6.2.2.op.kind/\i_0=b_6.2.2.op.who/\i_0=b_6.2.2.op.inn/\i_0=b_6.2.2.op.code/\i_0=b_6.2.2.op.sec/\i_0=b_6.2.2.op.fam/\i_0=b_6.2.2.op.gen)/\(((zi (hearD b_4.1 b_4.2.1 b_4.2.2).2.length)==i_1)=true->(i_0<=i_0/\i_0<(zi (hearD b_4.1 b_4.2.1 b_4.2.2).2.length))/\((((hearD b_4.1 b_4.2.1 b_4.2.2).2.getD (Int.toNat i_0) dMsg).kind==i_6)=true->∃ (b_7:Disk×Disk),((q_e (fallD b_5.1 b_5.2).notes b_7.1.notes/\(fallD b_5.1 b_5.2).safe=b_7.1.safe)/\cnRs (frozenRs (typ dNote eNoteO (hearD b_4.1 b_4.2.1 b_4.2.2).1.notes))=t_e b_7.2.notes/\(hearD b_4.1 b_4.2.1 b_4.2.2).1.safe=b_7.2.safe)/\(decide (b_7.1=b_7.2)=true->∃ (b_8:Disk×Disk),((cnRs (frozenRs (typ dNote eNoteO (hearD b_6.1 b_6.2.1 b_6.2.2).1.notes))=t_e b_8.1.notes/\(hearD b_6.1 b_6.2.1 b_6.2.2).1.safe=b_8.1.safe)/\q_e (fallD b_5.1 b_5.2).notes b_8.2.notes/\(fallD b_5.1 b_5.2).safe=b_8.2.safe)/\(decide (b_8.1=b_8.2)=true->(((zi (hearD b_6.1 b_6.2.1 b_6.2.2).2.length)==i_0)=true->∃ (b_9:Disk×Int),((cnRs (frozenRs (typ dNote eNoteO (hearD b_4.1 b_4.2.1 b_4.2.2).1.notes))=t_e b_9.1.notes/\(hearD b_4.1 b_4.2.1 b_4.2.2).1.safe=b_9.1.safe)/\(hearM3 (List.take n_2000 b)).1.tx=b_9.2)/\(((if diskB b_9.1=true then ofN b_9.1.notes b_9.2 else i_0)==i_2)=true->∃ (b_10:Disk),(cnRs (frozenRs (typ dNote eNoteO (hearD b_4.1 b_4.2.1 b_4.2.2).1.notes))=t_e b_10.notes/\(hearD b_4.1 b_4.2.1 b_4.2.2).1.safe=b_10.safe)/\(∃ (b_11:List Int×Int),(cnRs (frozenRs (typ i_0 eI (openD b_10)))=t_I b_11.1/\(hearM3 (List.take n_2000 b)).1.tx=b_11.2)/\(!b_11.1.any fun (x:Int)=>x==b_11.2)=true))/\(((if diskB b_9.1=true then ofN b_9.1.notes b_9.2 else i_0)==i_2)=false->false=true))/\(((zi (hearD b_6.1 b_6.2.1 b_6.2.2).2.length)==i_0)=false->false=true))/\(decide (b_8.1=b_8.2)=false->false=true))/\(decide (b_7.1=b_7.2)=false->false=true))/\((((hearD b_4.1 b_4.2.1 b_4.2.2).2.getD (Int.toNat i_0) dMsg).kind==i_6)=false->false=true))/\(((zi (hearD b_4.1 b_4.2.1 b_4.2.2).2.length)==i_1)=false->false=true)))))/\(((if diskB b_3.1=true then ofN b_3.1.notes b_3.2 else i_0) != i_1)=true->k_2))/\((!msgB b_2)=true->∃ (b_3:Disk),(q_e (hearDk (List.take n_2000 b)).1.notes b_3.notes/\(hearDk (List.take n_2000 b)).1.safe=b_3.safe)/\(∃ (b_4:Disk),(q_e (hearDk (List.take n_2000 b)).1.notes b_4.notes/\(hearDk (List.take n_2000 b)).1.safe=b_4.safe)/\((if false=true then !diskB b_3==diskB b_4 else diskB b_3==diskB b_4)=true->k_1)/\((if false=true then !diskB b_3==diskB b_4 else diskB b_3==diskB b_4)=false->false=true))))/\((!diskB b_1)=true->∃ (b_2:Disk),(q_e (hearDk (List.take n_2000 b)).1.notes b_2.notes/\(hearDk (List.take n_2000 b)).1.safe=b_2.safe)/\(∃ (b_3:Disk),(q_e (hearDk (List.take n_2000 b)).1.notes b_3.notes/\(hearDk (List.take n_2000 b)).1.safe=b_3.safe)/\((if false=true then !diskB b_2==diskB b_3 else diskB b_2==diskB b_3)=true->k_1)/\((if false=true then !diskB b_2==diskB b_3 else diskB b_2==diskB b_3)=false->false=true))))/\(decide (hearP (List.take n_2000 b)>i_3)=true->k_3))/\(decide (hearP (List.take n_2000 b)<i_1)=true->k_3)))=_ by kernel_rfl) ?_
 delta i_0 i_1 i_2 i_3 zi t_I t_U q_U n_2000 i_6 t_e q_e i_120 i_1048576
 simp (config:={ maxSteps:=2000000 }) only [zza,zzb,true_and,and_true,and_self,ne_eq,cI_app,cWrtO_app,cWrtS_app,cWrtO_1,cItemO_1,opr_ex,zcast,frz_nil,nil_map,Option.getD_none,Option.getD_some]
 generalize hearP (List.take 2000 l)=p
 generalize (hearDk (List.take 2000 l)).1=d
 generalize (hearM3 (List.take 2000 l)).1=m
 by_cases h1:p<1
 ·simp [h1,hpre]
 by_cases h2:3<p
 ·simp [h1,h2,hpre]
 have hp:inR p 1 3=true:=by simp only [inR,Bool.and_eq_true,decide_eq_true_eq];omega
 rcases Bool.eq_false_or_eq_true (diskB d) with hd | hd
 rotate_left
 ·simp [h1,h2,hd,hpre]
 rcases Bool.eq_false_or_eq_true (msgB m) with hm | hm
 rotate_left
 ·simp [h1,h2,hd,hm,hpre]
 by_cases ho:ofN d.notes m.tx=1
 rotate_left
 ·simp [h1,h2,hd,hm,ho,hpre]
 by_cases hl:d.notes.length=120
 ·simp [h1,h2,hd,hm,ho,hl,hpre]
 have tx:=msg_tx hm
 have e2:hearD p d ⟨2,p,0,m.tx,⟨0,0,0,0,0,0,0⟩⟩=(⟨d.notes++[⟨2,m.tx,[],[]⟩],(d.notes.length:Int)+1⟩,[msgF 6 p m.tx]):=by
  cases hear_cases hp hd (msg_told (.inl rfl) hp tx) rfl with
  | had k | cant k | can _ k | no k | vain k=>simp at k
  | full k o f=>exact absurd f hl
  | knew k o=>exact absurd ho o
  | yes k o f e=>exact e
 have hX:diskB ⟨d.notes++[⟨2,m.tx,[],[]⟩],(d.notes.length:Int)+1⟩=true:=disk_add hd (note_end (.inl rfl) tx) hl (.inr rfl)
 have hof:ofN (d.notes++[⟨2,m.tx,[],[]⟩]) m.tx=2:=by rw [ofN_app];simp
 have ef:=fall_safe hX (by simp)
 have e3:hearD p ⟨d.notes++[⟨2,m.tx,[],[]⟩],(d.notes.length:Int)+1⟩ ⟨3,p,0,m.tx,⟨0,0,0,0,0,0,0⟩⟩=(⟨d.notes++[⟨2,m.tx,[],[]⟩],(d.notes.length:Int)+1⟩,[]):=by
  cases hear_cases hp hX (msg_told (.inr rfl) hp tx) rfl with
  | had k | cant k | can _ k | full k | yes k | knew k=>simp at k
  | no k o=>simp only [hof] at o;cases o
  | vain k o e=>exact e
 have en:((openD ⟨d.notes++[⟨2,m.tx,[],[]⟩],(d.notes.length:Int)+1⟩).any fun x=>x==m.tx)=false:=by
  cases h:(openD ⟨d.notes++[⟨2,m.tx,[],[]⟩],(d.notes.length:Int)+1⟩).any fun x=>x==m.tx
  ·rfl
  ·simp only [openD,hX,if_true] at h
   have:=openK_all (Nat.le_refl _) h
   rw [hof] at this;cases this
 simp only [e2,ef,e3,hof,hX,en]
 simp [h1,h2,hd,hm,ho,hl,hpre]
end Go.Proofs.AI
