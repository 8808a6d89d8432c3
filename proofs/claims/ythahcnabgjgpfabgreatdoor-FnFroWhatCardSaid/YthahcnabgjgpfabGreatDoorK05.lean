/- Data, how they lie in memory, and contracts of functions. Conditions: none. -/
import Derived.KernelRfl
import Derived.ProofKit
import Derived.Test.YthahcnabgjgpfabGreatDoorK04
namespace Go.Proofs.AI
open Go.RowKit Go.Proofs
set_option linter.unusedVariables false
set_option linter.unusedSimpArgs false
set_option maxRecDepth 100000
def diskR (l:List Int):Nat->Disk->Nat->Disk×Nat
 | 0,d,p=>(d,p)
 | k+1,d,p=>diskR l k (addD d (noteD l p 0).1 (pickB l (noteD l p 0).2 2==0)).1 ((noteD l p 0).2+1)
def diskBent (l:List Int) (p:Nat) (d:Disk):Disk×Nat :=
 if pickB l p 3=0 then (⟨d.notes,[-1,(d.notes.length:Int)+1].getD (pickB l (p+1) 2).toNat 0⟩,p+2)
 else if pickB l p 3=1 then (⟨d.notes++[(noteD l (p+1) 1).1],d.safe⟩,(noteD l (p+1) 1).2)
 else (⟨d.notes++List.replicate (121-d.notes.length) ⟨3,0,[],[]⟩,d.safe⟩,p+1)
def disk0 (l:List Int) (p:Nat):Disk×Nat:=diskR l (pickB l p 10).toNat ⟨[],0⟩ (p+1)
def diskD (l:List Int) (p:Nat) (n:Int):Disk×Nat :=
 let a:=disk0 l p
 let q:=oddB l a.2 n
 if q.1=true then diskBent l q.2 a.1 else (a.1,q.2)
def playR (l:List Int):Nat->List Evt->Wld->Nat->(List Evt×Wld)×Nat
 | 0,es,w,p=>((es,w),p)
 | k+1,es,w,p=>playR l k (es++[(evtD l p w.net.length w.ops.length).1]) (stepE w (evtD l p w.net.length w.ops.length).1) (evtD l p w.net.length w.ops.length).2
def playD (l:List Int) (p:Nat) (n:Int):(List Evt×Wld)×Nat:=playR l (pickB l p n).toNat [] newW (p+1)
theorem evt_le {l:List Int} {p:Nat} (nl ol:Nat) (h:rdB l p 20):(evtD l p nl ol).2<=p+20:=by
 have:=op_le (l:=l) (p:=p+1) 0 (rdB_le h (by omega))
 simp only [evtD]
 repeat' split
 all_goals simp<;>omega
structure playI (l:List Int) (p:Nat) (n:Int) (a:List Int) (q:Nat) (w:Wld) (es:List Evt) (k:Int):Prop where
 ea:a=l
 k0:0<=k
 k1:k<60
 tm:tame w
 eq:playR l k.toNat es w q=playD l p n
 qb:(q:Int)+20*k<=p+1+20*60
 eb:es.length+k.toNat<=60
theorem spec_l20Play_ok (l:List Int) (p:Nat) (n:Int) (hpre:rdB l p 2000/\n<=60):FunOK Tryz.prog 103 2 [0] [(0,kRd l p),(1,kI n)] (·=[(2,⟨.tup [(false,1),(true,7)],.c (oEvts (playD l p n).1.1)::cKWldO (playD l p n).1.2,[]⟩),(0,kRd l (playD l p n).2)]):=by
 refine fun_to (E:=⟨tab,ctOf [spec_rd_pick_c,spec_WldNew_c,spec_l20Event_c,spec_l7Step_c,spec_l7Copy_c],32,[0],[(0,[0,1,5,7,11,22,23,24,25,31]),(1,[0,1,5,6,7,11,22,23,24,25,31]),(2,[0,1,5,6,7,11,22,23,24,25,31]),(3,[0,5,6,7,8,11,22,23,24,25,31]),(4,[0,5,6,7,8,11,16,22,23,24,25,31]),(5,[0,5,6,7,8,11,22,23,24,25,31]),(6,[0,5,6,7,8,9,11,22,23,24,25,31]),(7,[0,5,6,7,8,9,11,22,23,24,25,31]),(8,[0,5,6,7,8,11,22,23,24,25,31]),(9,[0,4,5,7,11,22,23,24,25,29,31])],[(0,⟨List Int×Nat×List Note×Int×List FTx×List Disk×List Msg×List Opr×List FOut×List Evt×Int,fun x=>[(0,⟨.box,[.c (sU (x.1)),.c (.n .i64 (x.2.1:Int))],[]⟩),(5,⟨.box,[.c (.ow 107 nilR),.c (.n .i64 ((0:Int))),.c (.ow 69 nilR),.c (.ow 35 nilR),.c (.ow 46 nilR),.c (.ow 44 nilR),.c (.ow 74 nilR)],[]⟩),(6,⟨.box,[.c (sNotes (x.2.2.1)),.c (.n .i64 (x.2.2.2.1)),.c (mFTxs (x.2.2.2.2.1)),.c (mDisks (x.2.2.2.2.2.1)),.c (oMsgs (x.2.2.2.2.2.2.1)),.c (oOps (x.2.2.2.2.2.2.2.1)),.c (oFOuts (x.2.2.2.2.2.2.2.2.1))],[]⟩),(7,(k1 (oEvts (x.2.2.2.2.2.2.2.2.2.1)))),(8,(k1 (.n .i64 (x.2.2.2.2.2.2.2.2.2.2)))),(11,(k1 .any))]⟩)],[(7,[(1000000,[])]),(9,[(1000000,[])])],[],[]⟩) tab_ok mixed Tryz.func103 rfl Tryz.ntmps103 (rvs:=[.tmp 4,.cell 5 141]) Tryz.results103 rfl fun hl=>?_
 refine cast (show (let k_4:Prop:=∀ (k:Nat),True/\True;let k_3:Prop:=True/\True/\True/\True/\True/\True/\True/\True;let k_2:Prop:=∀ (k:Nat),True/\True/\k_4/\(∀ (k:Nat),True/\True/\k_4/\True)/\True;let k_1:Prop:=cnRs nilR=cnRs nilR/\i_0=i_0/\cnRs nilR=cnRs nilR/\cnRs nilR=cnRs nilR/\cnRs nilR=cnRs nilR/\cnRs nilR=cnRs nilR/\cnRs nilR=cnRs nilR;∃ (b:Unit),True/\(∃ (b:y_6),((q_U l b.1/\zi p=zi b.2.1)/\n=b.2.2)/\rdB b.1 b.2.1 n_1/\(∃ (pre:y_28->Prop),∃ (μ:y_28->Nat),∃ (x0:y_28),((q_U b.1 x0.1/\(zi (b.2.1+n_1))=zi x0.2.1)/\k_1/\(q_e newW.front.disk.notes x0.2.2.1/\newW.front.disk.safe=x0.2.2.2.1/\q_h newW.front.way x0.2.2.2.2.1/\q_l newW.disks x0.2.2.2.2.2.1/\q_g newW.net x0.2.2.2.2.2.2.1/\q_m newW.ops x0.2.2.2.2.2.2.2.1/\q_k newW.outs x0.2.2.2.2.2.2.2.2.1)/\cnRs (raw [])=t_o x0.2.2.2.2.2.2.2.2.2.1/\pickB b.1 b.2.1 b.2.2=x0.2.2.2.2.2.2.2.2.2.2/\True)/\pre x0/\(∀ (x:y_28),pre x->(decide (x.2.2.2.2.2.2.2.2.2.2>i_0)=true->∃ (b:y_29),((q_U x.1 b.1/\zi x.2.1=zi b.2.1)/\True/\True/\True/\True/\x.2.2.2.2.2.2.1.length=b.2.2.1/\x.2.2.2.2.2.2.2.1.length=b.2.2.2/\True)/\(rdB b.1 b.2.1 n_20/\b.2.2.1<=n_1000/\b.2.2.2<=n_1000)/\(x.2.2.2.2.2.2.2.2.2.1.length+n_1)*n_88<=n_140737488355328/\(∃ (b_1:Wld×Evt),((q_e x.2.2.1 b_1.1.front.disk.notes/\x.2.2.2.1=b_1.1.front.disk.safe/\q_h x.2.2.2.2.1 b_1.1.front.way/\q_l x.2.2.2.2.2.1 b_1.1.disks/\q_g x.2.2.2.2.2.2.1 b_1.1.net/\q_m x.2.2.2.2.2.2.2.1 b_1.1.ops/\q_k x.2.2.2.2.2.2.2.2.1 b_1.1.outs)/\(evtD b.1 b.2.1 b.2.2.1 b.2.2.2).1.kind=b_1.2.kind/\(evtD b.1 b.2.1 b.2.2.1 b.2.2.2).1.op.kind=b_1.2.op.kind/\(evtD b.1 b.2.1 b.2.2.1 b.2.2.2).1.op.who=b_1.2.op.who/\(evtD b.1 b.2.1 b.2.2.1 b.2.2.2).1.op.inn=b_1.2.op.inn/\(evtD b.1 b.2.1 b.2.2.1 b.2.2.2).1.op.code=b_1.2.op.code/\(evtD b.1 b.2.1 b.2.2.1 b.2.2.2).1.op.sec=b_1.2.op.sec/\(evtD b.1 b.2.1 b.2.2.1 b.2.2.2).1.op.fam=b_1.2.op.fam/\(evtD b.1 b.2.1 b.2.2.1 b.2.2.2).1.op.gen=b_1.2.op.gen/\(evtD b.1 b.2.1 b.2.2.1 b.2.2.2).1.at_=b_1.2.at_/\(evtD b.1 b.2.1 b.2.2.1 b.2.2.2).1.place=b_1.2.place/\(evtD b.1 b.2.1 b.2.2.1 b.2.2.2).1.keep=b_1.2.keep)/\tame b_1.1/\(∃ (y:y_28),((q_U b.1 y.1/\(zi (evtD b.1 b.2.1 b.2.2.1 b.2.2.2).2)=zi y.2.1)/\k_1/\(q_e (stepE b_1.1 b_1.2).front.disk.notes y.2.2.1/\(stepE b_1.1 b_1.2).front.disk.safe=y.2.2.2.1/\q_h (stepE b_1.1 b_1.2).front.way y.2.2.2.2.1/\q_l (stepE b_1.1 b_1.2).disks y.2.2.2.2.2.1/\q_g (stepE b_1.1 b_1.2).net y.2.2.2.2.2.2.1/\q_m (stepE b_1.1 b_1.2).ops y.2.2.2.2.2.2.2.1/\q_k (stepE b_1.1 b_1.2).outs y.2.2.2.2.2.2.2.2.1)/\cnRs (appR (typ dEvt eEvt x.2.2.2.2.2.2.2.2.2.1) (raw [[cn_ (evtD b.1 b.2.1 b.2.2.1 b.2.2.2).1.kind,cn_ (evtD b.1 b.2.1 b.2.2.1 b.2.2.2).1.op.kind,cn_ (evtD b.1 b.2.1 b.2.2.1 b.2.2.2).1.op.who,cn_ (evtD b.1 b.2.1 b.2.2.1 b.2.2.2).1.op.inn,cn_ (evtD b.1 b.2.1 b.2.2.1 b.2.2.2).1.op.code,cn_ (evtD b.1 b.2.1 b.2.2.1 b.2.2.2).1.op.sec,cn_ (evtD b.1 b.2.1 b.2.2.1 b.2.2.2).1.op.fam,cn_ (evtD b.1 b.2.1 b.2.2.1 b.2.2.2).1.op.gen,cn_ (evtD b.1 b.2.1 b.2.2.1 b.2.2.2).1.at_,cn_ (evtD b.1 b.2.1 b.2.2.1 b.2.2.2).1.place,cn_ (evtD b.1 b.2.1 b.2.2.1 b.2.2.2).1.keep]]))=t_o y.2.2.2.2.2.2.2.2.2.1/\wr_ (x.2.2.2.2.2.2.2.2.2.2-i_1)=y.2.2.2.2.2.2.2.2.2.2/\True)/\pre y/\μ y<μ x)))/\(decide (x.2.2.2.2.2.2.2.2.2.2>i_0)=false->∃ (b:Wld),(q_e x.2.2.1 b.front.disk.notes/\x.2.2.2.1=b.front.disk.safe/\cnRs (frozenRs (typ dFTx eFTxS x.2.2.2.2.1))=t_h b.front.way/\cnRs (frozenRs (typ dDisk eDiskS x.2.2.2.2.2.1))=t_l b.disks/\cnRs (frozenRs (typ dMsg eMsg x.2.2.2.2.2.2.1))=t_g b.net/\cnRs (frozenRs (typ dOpr eOpr x.2.2.2.2.2.2.2.1))=t_m b.ops/\cnRs (frozenRs (typ dFOut eFOut x.2.2.2.2.2.2.2.2.1))=t_k b.outs)/\smallW b/\((k_2/\True/\(∀ (k:Nat),True/\True/\True/\True/\True/\True/\True/\True/\True/\k_4/\k_4/\True)/\(∀ (k:Nat),k_2/\True/\True)/\(∀ (k:Nat),True/\True/\True/\True/\k_3)/\(∀ (k:Nat),k_3)/\(∀ (k:Nat),True/\True/\True)/\True)/\True)/\(q_o x.2.2.2.2.2.2.2.2.2.1 (playD l p n).1.1/\q_f b.front.disk.notes (playD l p n).1.2.front.disk.notes/\b.front.disk.safe=(playD l p n).1.2.front.disk.safe/\q_j b.front.way (playD l p n).1.2.front.way/\q_n b.disks (playD l p n).1.2.disks/\q_g b.net (playD l p n).1.2.net/\q_m b.ops (playD l p n).1.2.ops/\q_k b.outs (playD l p n).1.2.outs)/\q_U x.1 l/\zi x.2.1=(zi (playD l p n).2))))))=_ by kernel_rfl) ?_
 delta i_0 i_1 wr_ zi n_140737488355328 n_1 n_1000 cn_ t_U q_U y_6 t_e q_e t_f q_f t_g q_g n_88 t_h q_h t_j q_j t_k q_k t_l t_m q_l q_m t_n q_n t_o q_o n_20 y_28 y_29
 have hp:=hpre.1
 have b1:0<=pickB l p n/\pickB l p n<60:=by
  by_cases hn:0<n
  ·have:=pick_lt (l:=l) (p:=p) (n:=n) (rdB_le hp (by omega):rdB l p 1) hn
   have:=hpre.2
   omega
  ·have:pickB l p n=0:=by simp [pickB,show n<1 by omega]
   omega
 simp only [zza,zzb,true_and,and_true,and_self,ne_eq,cI_app,cWrtO_app,cWrtS_app,cWrtO_1,cItemO_1,opr_ex,zcast,frz_nil,nil_map,Option.getD_none,Option.getD_some]
 refine ⟨rdB_le hp (by omega),(),fun x=>playI l p n x.1 x.2.1 ⟨⟨⟨x.2.2.1,x.2.2.2.1⟩,x.2.2.2.2.1⟩,x.2.2.2.2.2.1,x.2.2.2.2.2.2.1,x.2.2.2.2.2.2.2.1,x.2.2.2.2.2.2.2.2.1⟩ x.2.2.2.2.2.2.2.2.2.1 x.2.2.2.2.2.2.2.2.2.2,⟨rfl,b1.1,b1.2,newW_tame,rfl,by simp only;omega,by simp only [List.length_nil];omega⟩,fun x=>x.2.2.2.2.2.2.2.2.2.2.toNat,fun a q ns sf wy ds nt os ou es k hx=>?_⟩
 obtain ⟨h1,h2,h3,h4,h5,h6,h7⟩:=hx
 simp only at h1 h2 h3 h4 h5 h6 h7
 subst h1
 have a1:=h4.nl
 have a2:=h4.ol
 simp only at a1 a2
 refine ⟨fun hk=>?_,fun hk=>?_⟩
 ·have e:IntKind.i64.wrap (k-1)=k-1:=IntWalk.i64_in _ (by omega)
  rw [e]
  obtain ⟨m,rfl⟩:∃ m:Nat,k=(m:Int)+1:=⟨(k-1).toNat,by omega⟩
  have e2:((m:Int)+1).toNat=m+1:=by omega
  have e3:((m:Int)+1-1).toNat=m:=by omega
  have hq:rdB a q 20:=rdB_le hp (by omega)
  have hv:=evt_le (l:=a) (p:=q) nt.length os.length hq
  rw [e2,playR] at h5
  simp only [e3,e2]
  refine ⟨hq,by omega,by omega,by omega,h4,es++[(evtD a q nt.length os.length).1],by simp,⟨rfl,by omega,by omega,stepE_tame h4 _,?_,by omega,?_⟩,by omega⟩
  ·simp only [e3]
   exact h5
  ·simp only [List.length_append,List.length_singleton];omega
 ·obtain rfl:k=0:=by omega
  simp only [Int.toNat_zero,playR] at h5
  rw [<- h5]
  exact ⟨tame_small h4,rfl,rfl,rfl,rfl,rfl,rfl,rfl,rfl,rfl,rfl⟩
def spec_l20Play_c:Con Tryz.prog:=conP [.ptr,.lend] fun (b:List Int×Nat×Int) h=>spec_l20Play_ok (b.1) (b.2.1) (b.2.2) h
end Go.Proofs.AI
namespace Go.Proofs.AI
open Go.RowKit Go.Proofs
set_option linter.unusedVariables false
set_option linter.unusedSimpArgs false
set_option maxRecDepth 100000
theorem addD_len (d:Disk) (n:Note) (s:Bool):(addD d n s).1.notes.length<=120:=by
 simp only [addD]
 split
 ·rename_i h
  simp only [Bool.and_eq_true] at h
  have:=(diskB_small h.1).2.1
  split
  ·exact this
  ·simp only [List.length_append,List.length_singleton];omega
 ·simp
theorem noteO1 (l:List Note) (m:Note):cnRs (appR (typ dNote eNoteO l) (raw [eNoteO m]))=(l++[m]).map nNoteO:=by
 simp [eNoteO]
theorem noteO3 (l:List Note):cnRs (appR (typ dNote eNoteO l) (raw [[CV.n IntKind.i64 3,CV.n IntKind.i64 0,CV.ow tS nilR,CV.ow tWrt nilR]]))=(l++[(⟨3,0,[],[]⟩:Note)]).map nNoteO:=by
 simp
theorem diskD_eq (l:List Int) (p:Nat) (n:Int):diskD l p n=if (oddB l (disk0 l p).2 n).1=true then diskBent l (oddB l (disk0 l p).2 n).2 (disk0 l p).1 else ((disk0 l p).1,(oddB l (disk0 l p).2 n).2):=rfl
abbrev N3:Note:=⟨3,0,[],[]⟩
theorem spec_l20Disk_ok (l:List Int) (p:Nat) (n:Int) (hpre:rdB l p 1400/\n<1000000):FunOK Tryz.prog 105 2 [0] [(0,kRd l p),(1,kI n)] (·=[(2,kDiskO (diskD l p n).1),(0,kRd l (diskD l p n).2)]):=by
 refine fun_to (E:=⟨tab,ctOf [spec_rd_pick_c,spec_rd_odd_c,spec_DiskAdd_c,spec_l20Note_c],61,[0],[(0,[0,1,4,5,60]),(1,[0,1,4,5,60]),(2,[0,1,4,5,6,60]),(3,[0,1,4,5,6,11,60]),(4,[0,1,4,5,6,60]),(5,[0,1,4,5,6,60]),(6,[0,4,5,26,60]),(7,[0,4,5,28,60]),(8,[0,4,5,32,60]),(9,[0,4,5,60]),(10,[0,4,5,28,39,60]),(11,[0,4,5,60]),(12,[0,4,5,51,60]),(13,[0,4,5,60]),(14,[0,4,5,60])],[(0,⟨List Int×Nat×List Note×Int×Int,fun x=>[(0,⟨.box,[.c (sU (x.1)),.c (.n .i64 (x.2.1:Int))],[]⟩),(1,(k1 (.n .i64 n))),(4,⟨.box,[.c (.ow 107 nilR),.c (.n .i64 ((0:Int)))],[]⟩),(5,⟨.box,[.c (oNotes (x.2.2.1)),.c (.n .i64 (x.2.2.2.1))],[]⟩),(6,(k1 (.n .i64 (x.2.2.2.2))))]⟩),(3,⟨List Int×Nat×List Note×Int,fun x=>[(0,⟨.box,[.c (sU (x.1)),.c (.n .i64 (x.2.1:Int))],[]⟩),(4,⟨.box,[.c (.ow 107 nilR),.c (.n .i64 ((0:Int)))],[]⟩),(5,⟨.box,[.c (oNotes (x.2.2.1)),.c (.n .i64 (x.2.2.2))],[]⟩)]⟩)],[(5,[(1000010,[])])],[],[]⟩) tab_ok mixed Tryz.func105 rfl Tryz.ntmps105 (rvs:=[.cell 4 35]) Tryz.results105 rfl fun hl=>?_
 refine cast (show (let k_1:Prop:=cnRs nilR=cnRs nilR/\i_0=i_0;∃ (b:y_6),((q_U l b.1/\zi p=zi b.2.1)/\i_10=b.2.2)/\rdB b.1 b.2.1 n_1/\(∃ (pre:y_30->Prop),∃ (μ:y_30->Nat),∃ (x0:y_30),((q_U b.1 x0.1/\(zi (b.2.1+n_1))=zi x0.2.1)/\n=n/\k_1/\(cnRs nilR=t_f x0.2.2.1/\i_0=x0.2.2.2.1)/\pickB b.1 b.2.1 b.2.2=x0.2.2.2.2)/\pre x0/\(∀ (x:y_30),pre x->(decide (x.2.2.2.2>i_0)=true->∃ (b:y_6),((q_U x.1 b.1/\zi x.2.1=zi b.2.1)/\i_0=b.2.2)/\(rdB b.1 b.2.1 n_120/\b.2.2<i_1000000)/\(∃ (b_1:y_6),((q_U b.1 b_1.1/\(zi (noteD b.1 b.2.1 b.2.2).2)=zi b_1.2.1)/\i_2=b_1.2.2)/\rdB b_1.1 b_1.2.1 n_1/\(∃ (b_2:y_18),((cnRs (frozenRs (typ dNote eNoteO x.2.2.1))=t_e b_2.1.notes/\x.2.2.2.1=b_2.1.safe)/\((noteD b.1 b.2.1 b.2.2).1.kind=b_2.2.1.kind/\(noteD b.1 b.2.1 b.2.2).1.tx=b_2.2.1.tx/\cnRs (frozenRs (typ ByteArray.empty eS (noteD b.1 b.2.1 b.2.2).1.locks))=t_S b_2.2.1.locks/\cnRs (frozenRs (typ dWrt eWrtO (noteD b.1 b.2.1 b.2.2).1.writes))=t_c b_2.2.1.writes)/\(pickB b_1.1 b_1.2.1 b_1.2.2==i_0)=b_2.2.2)/\(((∀ (k:Nat),True/\True/\(∀ (k:Nat),True/\True)/\(∀ (k:Nat),True/\True/\(∀ (k:Nat),True/\True)/\True)/\True)/\True/\True/\True)/\True)/\True/\(∃ (y:y_30),((q_U b_1.1 y.1/\(zi (b_1.2.1+n_1))=zi y.2.1)/\n=n/\k_1/\(q_f (addD b_2.1 b_2.2.1 b_2.2.2).1.notes y.2.2.1/\(addD b_2.1 b_2.2.1 b_2.2.2).1.safe=y.2.2.2.1)/\wr_ (x.2.2.2.2-i_1)=y.2.2.2.2)/\pre y/\μ y<μ x))))/\(decide (x.2.2.2.2>i_0)=false->∃ (b:y_6),((q_U x.1 b.1/\zi x.2.1=zi b.2.1)/\n=b.2.2)/\(rdB b.1 b.2.1 n_1/\b.2.2<i_1000000)/\((oddB b.1 b.2.1 b.2.2).1=true->∃ (b_1:y_6),((q_U b.1 b_1.1/\(zi (oddB b.1 b.2.1 b.2.2).2)=zi b_1.2.1)/\i_3=b_1.2.2)/\rdB b_1.1 b_1.2.1 n_1/\((pickB b_1.1 b_1.2.1 b_1.2.2==i_0)=true->∃ (b:y_6),((q_U b_1.1 b.1/\(zi (b_1.2.1+n_1))=zi b.2.1)/\i_2=b.2.2)/\rdB b.1 b.2.1 n_1/\(i_0<=pickB b.1 b.2.1 b.2.2/\pickB b.1 b.2.1 b.2.2<zi n_2)/\(pickB b.1 b.2.1 b.2.2).toNat<n_2/\(q_f x.2.2.1 (diskD l p n).1.notes/\[(-1:Int),wr_ ((zi x.2.2.1.length)+i_1)].getD (pickB b.1 b.2.1 b.2.2).toNat i_0=(diskD l p n).1.safe)/\q_U b.1 l/\(zi (b.2.1+n_1))=(zi (diskD l p n).2))/\((pickB b_1.1 b_1.2.1 b_1.2.2==i_0)=false->((pickB b_1.1 b_1.2.1 b_1.2.2==i_1)=true->∃ (b:y_6),((q_U b_1.1 b.1/\(zi (b_1.2.1+n_1))=zi b.2.1)/\i_1=b.2.2)/\(rdB b.1 b.2.1 n_120/\b.2.2<i_1000000)/\(x.2.2.1.length+n_1)*n_64<=n_140737488355328/\(cnRs (appR (typ dNote eNoteO x.2.2.1) (raw [[cn_ (noteD b.1 b.2.1 b.2.2).1.kind,cn_ (noteD b.1 b.2.1 b.2.2).1.tx,CV.ow n_9 (typ ByteArray.empty eS (noteD b.1 b.2.1 b.2.2).1.locks),CV.ow n_102 (typ dWrt eWrtO (noteD b.1 b.2.1 b.2.2).1.writes)]]))=t_f (diskD l p n).1.notes/\x.2.2.2.1=(diskD l p n).1.safe)/\q_U b.1 l/\(zi (noteD b.1 b.2.1 b.2.2).2)=(zi (diskD l p n).2))/\((pickB b_1.1 b_1.2.1 b_1.2.2==i_1)=false->∃ (pre:y_31->Prop),∃ (μ:y_31->Nat),∃ (x0:y_31),((q_U b_1.1 x0.1/\(zi (b_1.2.1+n_1))=zi x0.2.1)/\k_1/\q_f x.2.2.1 x0.2.2.1/\x.2.2.2.1=x0.2.2.2)/\pre x0/\(∀ (x:y_31),pre x->(decide (zi x.2.2.1.length<=i_120)=true->(x.2.2.1.length+n_1)*n_64<=n_140737488355328/\(∃ (y:y_31),((q_U x.1 y.1/\zi x.2.1=zi y.2.1)/\k_1/\cnRs (appR (typ dNote eNoteO x.2.2.1) (raw [[cn_ i_3,cn_ i_0,CV.ow n_9 nilR,CV.ow n_102 nilR]]))=t_f y.2.2.1/\x.2.2.2=y.2.2.2)/\pre y/\μ y<μ x))/\(decide (zi x.2.2.1.length<=i_120)=false->(q_f x.2.2.1 (diskD l p n).1.notes/\x.2.2.2=(diskD l p n).1.safe)/\q_U x.1 l/\zi x.2.1=(zi (diskD l p n).2))))))/\((oddB b.1 b.2.1 b.2.2).1=false->(q_f x.2.2.1 (diskD l p n).1.notes/\x.2.2.2.1=(diskD l p n).1.safe)/\q_U b.1 l/\(zi (oddB b.1 b.2.1 b.2.2).2)=(zi (diskD l p n).2))))))=_ by kernel_rfl) ?_
 delta i_0 i_1 i_2 i_3 wr_ zi n_140737488355328 n_1 t_c i_10 cn_ t_S n_2 i_1000000 t_U q_U y_6 t_e i_120 t_f q_f n_64 n_9 n_102 y_18 n_120 y_30 y_31
 have hp:=hpre.1
 have b1:=pick_lt (l:=l) (p:=p) (n:=10) (rdB_le hp (by omega):rdB l p 1) (by omega)
 simp only [zza,zzb,true_and,and_true,and_self,ne_eq,cI_app,cWrtO_app,cWrtS_app,cWrtO_1,cItemO_1,opr_ex,zcast,frz_nil,nil_map,Option.getD_none,Option.getD_some]
 refine ⟨rdB_le hp (by omega),fun x=>x.1=l/\0<=x.2.2.2.2/\x.2.2.2.2<10/\diskR l x.2.2.2.2.toNat ⟨x.2.2.1,x.2.2.2.1⟩ x.2.1=disk0 l p/\(x.2.1:Int)+111*x.2.2.2.2<=p+1+1110/\x.2.2.1.length<=120,⟨rfl,b1.1,b1.2,rfl,by simp only;omega,by simp⟩,fun x=>x.2.2.2.2.toNat,fun a q ns sf k hx=>?_⟩
 obtain ⟨h1,h2,h3,h4,h5,h6⟩:=hx
 simp only at h1 h2 h3 h4 h5 h6
 subst h1
 refine ⟨fun hk=>?_,fun hk=>?_⟩
 ·have e:IntKind.i64.wrap (k-1)=k-1:=IntWalk.i64_in _ (by omega)
  rw [e]
  obtain ⟨m,rfl⟩:∃ m:Nat,k=(m:Int)+1:=⟨(k-1).toNat,by omega⟩
  have e2:((m:Int)+1).toNat=m+1:=by omega
  have e3:((m:Int)+1-1).toNat=m:=by omega
  have hv:=noteD_le (l:=a) (p:=q) 0 (rdB_le hp (by omega))
  rw [e2,diskR] at h4
  simp only [e3,e2]
  refine ⟨rdB_le hp (by omega),by omega,rdB_le hp (by omega),⟨trivial,by omega,by omega,h4,by omega,addD_len _ _ _⟩,by omega⟩
 ·obtain rfl:k=0:=by omega
  simp only [Int.toNat_zero,diskR] at h4
  rw [diskD_eq,<- h4]
  simp only
  have ho:=odd_le a q n
  generalize oddB a q n=Q at *
  have b2:=pick_lt (l:=a) (p:=Q.2+1) (n:=2) (rdB_le hp (by omega):rdB a (Q.2+1) 1) (by omega)
  refine ⟨rdB_le hp (by omega),hpre.2,fun hq=>⟨rdB_le hp (by omega),?_⟩,fun hq=>?_⟩
  ·rw [if_pos hq]
   refine ⟨fun h0=>⟨rdB_le hp (by omega),b2.1,b2.2,by omega,?_⟩,fun h0=>⟨fun h1=>⟨rdB_le hp (by omega),by omega,by omega,?_⟩,fun h1=>?_⟩⟩
   ·have e4:IntKind.i64.wrap ((ns.length:Int)+1)=(ns.length:Int)+1:=IntWalk.i64_in _ (by omega)
    simp [diskBent,h0,e4]
   ·simp only [diskBent,if_neg h0,if_pos h1,true_and,and_true]
    exact noteO1 _ _
   ·refine ⟨fun x=>x.1=a/\x.2.1=Q.2+1/\x.2.2.2=sf/\x.2.2.1.length<=121/\x.2.2.1++List.replicate (121-x.2.2.1.length) N3=ns++List.replicate (121-ns.length) N3,⟨rfl,rfl,rfl,by simp only;omega,rfl⟩,fun x=>121-x.2.2.1.length,fun a' q' ns' sf' hx=>?_⟩
    obtain ⟨g1,g2,g3,g4,g5⟩:=hx
    simp only at g1 g2 g3 g4 g5
    subst g1 g2 g3
    refine ⟨fun hl=>⟨by omega,ns'++[N3],noteO3 _,⟨rfl,rfl,rfl,by simp only [List.length_append,List.length_singleton];omega,?_⟩,by simp only [List.length_append,List.length_singleton];omega⟩,fun hl=>?_⟩
    ·simp only [List.length_append,List.length_singleton]
     rw [<- g5,show 121-ns'.length=(121-(ns'.length+1))+1 by omega,List.replicate_succ,List.append_assoc]
     rfl
    ·have:121-ns'.length=0:=by omega
     rw [this] at g5
     simp only [diskBent,if_neg h0,if_neg h1,true_and,and_true]
     simpa using g5
  ·rw [hq]
   simp
def spec_l20Disk_c:Con Tryz.prog:=conP [.ptr,.lend] fun (b:List Int×Nat×Int) h=>spec_l20Disk_ok (b.1) (b.2.1) (b.2.2) h
end Go.Proofs.AI
namespace Go.Proofs.AI
open Go.RowKit Go.Proofs
set_option linter.unusedVariables false
set_option linter.unusedSimpArgs false
set_option maxRecDepth 100000
theorem playR_le {l:List Int}:∀ (k:Nat) (es:List Evt) (w:Wld) (p:Nat),rdB l p (20*k)->(playR l k es w p).2<=p+20*k
 | 0,es,w,p,h=>by simp [playR]
 | k+1,es,w,p,h=>by
  have h1:=evt_le (l:=l) (p:=p) w.net.length w.ops.length (rdB_le h (by omega))
  have h2:=playR_le k (es++[(evtD l p w.net.length w.ops.length).1]) (stepE w (evtD l p w.net.length w.ops.length).1) (evtD l p w.net.length w.ops.length).2 (rdB_le h (by omega))
  rw [playR];omega
theorem playR_tame {l:List Int}:∀ (k:Nat) (es:List Evt) (w:Wld) (p:Nat),tame w->tame (playR l k es w p).1.2
 | 0,es,w,p,h=>by simpa [playR] using h
 | k+1,es,w,p,h=>by
  rw [playR];exact playR_tame k _ _ _ (stepE_tame h _)
theorem playD_tame (l:List Int) (p:Nat) (n:Int):tame (playD l p n).1.2:=playR_tame _ _ _ _ newW_tame
end Go.Proofs.AI
namespace Go.Proofs.AI
open Go.RowKit Go.Proofs
set_option linter.unusedVariables false
set_option linter.unusedSimpArgs false
set_option maxRecDepth 100000
def tabM:Tab:=fun t=>if t=46 then some ⟨.st,11,88,[(0,1,false),(1,1,false),(2,1,false),(3,1,false),(4,7,true)],[.int .i64 0,.int .i64 0,.int .i64 0,.int .i64 0,.int .i64 0,.int .i64 0,.int .i64 0,.int .i64 0,.int .i64 0,.int .i64 0,.int .i64 0],[.n .i64,.n .i64,.n .i64,.n .i64,.n .i64,.n .i64,.n .i64,.n .i64,.n .i64,.n .i64,.n .i64],[]⟩ else tab t
theorem tabM_ok:TabOk Tryz.prog tabM:=by
 intro t i h
 unfold tabM at h
 split at h
 ·rename_i ht;subst ht;cases h;exact tabOf_eq2 rfl (by kernel_rfl)
 ·exact tab_ok t i h
theorem note_ext {a b:Note} (h1:a.kind=b.kind) (h2:a.tx=b.tx) (h3:a.locks=b.locks) (h4:a.writes=b.writes):a=b:=by cases a;cases b;simp_all
theorem laws_jaNote_ok (a:Note) (b:Note):FunOK Tryz.prog 151 2 [] [(0,kNoteS a),(1,kNoteS b)] (·=[(2,kB (decide (a=b)))]):=by
 refine fun_to (E:=⟨tab,ctOf [laws_jaTexts_c,laws_jaWrites_c],31,[],[(0,[2,3]),(1,[4])],[],[],[],[]⟩) tab_ok mixed Tryz.func151 rfl Tryz.ntmps151 (rvs:=[.tmp 4]) Tryz.results151 rfl fun hl=>?_
 refine cast (show (((a.kind==b.kind)=true->((a.tx==b.tx)=true->∃ (b_1:y_16),(q_S a.locks b_1.1/\q_S b.locks b_1.2)/\(decide (b_1.1=b_1.2)=true->∃ (b_2:y_32),(q_c a.writes b_2.1/\q_c b.writes b_2.2)/\decide (b_2.1=b_2.2)=decide (a=b))/\(decide (b_1.1=b_1.2)=false->false=decide (a=b)))/\((a.tx==b.tx)=false->false=decide (a=b)))/\((a.kind==b.kind)=false->false=decide (a=b)))=_ by kernel_rfl) ?_
 delta t_c q_c t_S q_S y_16 y_32
 simp only [zza,zzb,true_and,and_true,and_self,ne_eq,cI_app,cWrtO_app,cWrtS_app,cWrtO_1,cItemO_1,opr_ex,zcast,frz_nil,nil_map,Option.getD_none,Option.getD_some]
 refine ⟨fun h1=>⟨fun h2=>⟨fun h3=>?_,fun h3=>?_⟩,fun h2=>?_⟩,fun h1=>?_⟩
 ·rw [Bool.eq_iff_iff,decide_eq_true_eq,decide_eq_true_eq];exact ⟨fun h=>note_ext h1 h2 h3 h,fun h=>by rw [h]⟩
 ·exact (decide_eq_false fun he=>h3 (by rw [he])).symm
 ·exact (decide_eq_false fun he=>h2 (by rw [he])).symm
 ·exact (decide_eq_false fun he=>h1 (by rw [he])).symm
def laws_jaNote_c:Con Tryz.prog:=con0 [.lend,.lend] fun b:Note×Note=>laws_jaNote_ok (b.1) (b.2)
theorem laws_jaNotes_ok (a:List Note) (b:List Note):FunOK Tryz.prog 112 2 [] [(0,k1 (sNotes a)),(1,k1 (sNotes b))] (·=[(2,kB (decide (a=b)))]):=by
 refine fun_to (E:=⟨tab,ctOf [laws_jaNote_c],27,[],[(0,[0,1]),(1,[0,1,10]),(2,[4]),(3,[0,1,5]),(4,[0,1,5,14]),(5,[0,1,5]),(6,[0,1,5,26]),(7,[4]),(8,[4])],[(0,⟨Nat,fun x=>[(0,(k1 (.sh 107 (typ dNote eNoteS a)))),(1,(k1 (.sh 107 (typ dNote eNoteS b)))),(5,(k1 (.n .i64 (x:Int))))]⟩)],[],[],[]⟩) tab_ok mixed Tryz.func112 rfl Tryz.ntmps112 (rvs:=[.tmp 4]) Tryz.results112 rfl fun hl=>?_
 refine cast (show ((((zi a.length) != zi b.length)=true->false=decide (a=b))/\(((zi a.length) != zi b.length)=false->∃ (pre:Nat->Prop),∃ (μ:Nat->Nat),∃ (x0:Nat),(q_e a a/\q_e b b/\i_0=zi x0)/\pre x0/\∀ (x:Nat),pre x->(decide (zi x<zi a.length)=true->(i_0<=zi x/\zi x<zi a.length)/\(i_0<=zi x/\zi x<zi b.length)/\∃ (b_1:Note×Note),(((g_Note a x).kind=b_1.1.kind/\(g_Note a x).tx=b_1.1.tx/\q_S (g_Note a x).locks b_1.1.locks/\q_c (g_Note a x).writes b_1.1.writes)/\(g_Note b x).kind=b_1.2.kind/\(g_Note b x).tx=b_1.2.tx/\q_S (g_Note b x).locks b_1.2.locks/\q_c (g_Note b x).writes b_1.2.writes)/\((!decide (b_1.1=b_1.2))=true->false=decide (a=b))/\((!decide (b_1.1=b_1.2))=false->∃ (y:Nat),(q_e a a/\q_e b b/\wr_ ((zi x)+i_1)=zi y)/\pre y/\μ y<μ x))/\(decide (zi x<zi a.length)=false->true=decide (a=b))))=_ by kernel_rfl) ?_
 delta i_0 i_1 wr_ zi t_c q_c t_S q_S g_Note t_e q_e
 have hx:a.length<=9223372036854775807:=hl.1 (.c (sNotes a)) (by simp)
 simp only [zza,zzb,true_and,and_true,and_self,ne_eq,cI_app,cWrtO_app,cWrtS_app,cWrtO_1,cItemO_1,opr_ex,zcast,frz_nil,nil_map,Option.getD_none,Option.getD_some]
 refine ⟨fun h=>?_,fun h=>?_⟩
 ·exact (decide_eq_false fun he=>h (by rw [he])).symm
 have hlen:=len_ne h
 refine ⟨fun i=>i<=a.length/\∀ j,j<i->a.getD j dNote=b.getD j dNote,⟨by omega,fun j hj=>absurd hj (Nat.not_lt_zero _)⟩,fun i=>a.length-i,fun i hp=>?_⟩
 obtain ⟨h1,h2⟩:=hp
 refine ⟨fun hlt=>⟨by omega,hlt,by omega,by omega,fun e=>?_,fun e=>⟨i+1,wrapN (by omega),⟨by omega,below_succ h2 (by simpa using e)⟩,by simp only;omega⟩⟩,fun hge=>?_⟩
 ·have e:¬ a.getD i dNote=b.getD i dNote:=by simpa using e
  exact (decide_eq_false fun he=>e (by rw [he])).symm
 ·exact (decide_eq_true (ext_getD (d:=dNote) hlen fun j hj=>h2 j (by omega))).symm
def laws_jaNotes_c:Con Tryz.prog:=con0 [.lend,.lend] fun b:List Note×List Note=>laws_jaNotes_ok (b.1) (b.2)
theorem laws_jaDisk_ok (a:Disk) (b:Disk):FunOK Tryz.prog 67 2 [] [(0,kDiskS a),(1,kDiskS b)] (·=[(2,kB (decide (a=b)))]):=by
 refine fun_to (E:=⟨tab,ctOf [laws_jaNotes_c],17,[],[(0,[2,3]),(1,[4])],[],[],[],[]⟩) tab_ok mixed Tryz.func67 rfl Tryz.ntmps67 (rvs:=[.tmp 4]) Tryz.results67 rfl fun hl=>?_
 refine cast (show (((a.safe==b.safe)=true->∃ (b_1:y_33),(q_e a.notes b_1.1/\q_e b.notes b_1.2)/\decide (b_1.1=b_1.2)=decide (a=b))/\((a.safe==b.safe)=false->false=decide (a=b)))=_ by kernel_rfl) ?_
 delta t_e q_e y_33
 simp only [zza,zzb,true_and,and_true,and_self,ne_eq,cI_app,cWrtO_app,cWrtS_app,cWrtO_1,cItemO_1,opr_ex,zcast,frz_nil,nil_map,Option.getD_none,Option.getD_some]
 refine ⟨fun h1=>?_,fun h1=>?_⟩
 ·rw [Bool.eq_iff_iff,decide_eq_true_eq,decide_eq_true_eq];exact ⟨fun h=>Disk_ext h h1,fun h=>by rw [h]⟩
 ·exact (decide_eq_false fun he=>h1 (by rw [he])).symm
def laws_jaDisk_c:Con Tryz.prog:=con0 [.lend,.lend] fun b:Disk×Disk=>laws_jaDisk_ok (b.1) (b.2)
end Go.Proofs.AI
namespace Go.Proofs.AI
open Go.RowKit Go.Proofs
set_option linter.unusedVariables false
set_option linter.unusedSimpArgs false
set_option maxRecDepth 100000
theorem cSetTO (l:List FTx) (k o:Nat) (x:CV) (t:FTx) (h:(nFTxO (l.getD k dFTx)).set o (cn x)=nFTxO t):cnRs (setF (typ dFTx eFTxO l) k o x)=(l.set k t).map nFTxO:=by
 rw [cnRs_setF,cFTxO]
 apply List.ext_getElem?
 intro i
 simp only [List.getElem?_modify,List.getElem?_map,List.getElem?_set]
 by_cases hk:k=i
 ·subst hk
  by_cases hl:k<l.length
  ·rw [getD_lt hl] at h
   simp [-nFTxO_d,hl,h]
  ·simp [hl]
 ·cases l[i]?<;>simp [hk]
theorem setF_setF (es:Rows CV) (k o:Nat) (x y:CV):setF (setF es k o x) k o y=setF es k o y:=by
 simp only [setF_eq]
 congr 1
 funext i
 split
 ·exact List.set_set ..
 ·rfl
def frontBent (l:List Int) (p:Nat) (f:Front):Front×Nat :=
 if pickB l p 5=0 then (⟨(diskD l (p+1) 2).1,f.way⟩,(diskD l (p+1) 2).2)
 else if pickB l p 5=1 then (⟨f.disk,f.way++[⟨pickB l (p+1) 9-1,(opB l (p+2) 2).1,false,[],[]⟩]⟩,(opB l (p+2) 2).2)
 else if pickB l p 5=2 then (⟨f.disk,f.way++[⟨29,dOpr,true,[],[]⟩]⟩,p+1)
 else if pickB l p 5=3 then (if 0<f.way.length then ⟨f.disk,f.way.set 0 ⟨(f.way.getD 0 dFTx).tx,(f.way.getD 0 dFTx).op,(f.way.getD 0 dFTx).yes,[3,1],(f.way.getD 0 dFTx).know⟩⟩ else f,p+1)
 else (if 0<f.way.length then ⟨f.disk,f.way.set 0 ⟨(f.way.getD 0 dFTx).tx,(f.way.getD 0 dFTx).op,(f.way.getD 0 dFTx).yes,(f.way.getD 0 dFTx).can,(f.way.getD 0 dFTx).know++[4]⟩⟩ else f,p+1)
def frontD (l:List Int) (p:Nat) (n:Int):Front×Nat :=
 let a:=playD l p 50
 let q:=oddB l a.2 n
 if q.1=true then frontBent l q.2 a.1.2.front else (a.1.2.front,q.2)
theorem frontD_eq (l:List Int) (p:Nat) (n:Int):frontD l p n=if (oddB l (playD l p 50).2 n).1=true then frontBent l (oddB l (playD l p 50).2 n).2 (playD l p 50).1.2.front else ((playD l p 50).1.2.front,(oddB l (playD l p 50).2 n).2):=rfl
theorem diskR_le {l:List Int}:∀ (k:Nat) (d:Disk) (p:Nat),rdB l p (111*k)->(diskR l k d p).2<=p+111*k
 | 0,d,p,h=>by simp [diskR]
 | k+1,d,p,h=>by
  have h1:=(noteD_le (l:=l) (p:=p) 0 (rdB_le h (by omega))).1
  have h2:=diskR_le k (addD d (noteD l p 0).1 (pickB l (noteD l p 0).2 2==0)).1 ((noteD l p 0).2+1) (rdB_le h (by omega))
  rw [diskR];omega
theorem disk0_le {l:List Int} {p:Nat} (h:rdB l p 1400):(disk0 l p).2<=p+1000:=by
 have b:=pick_lt (l:=l) (p:=p) (n:=10) (rdB_le h (by omega):rdB l p 1) (by omega)
 have:=diskR_le (l:=l) (pickB l p 10).toNat ⟨[],0⟩ (p+1) (rdB_le h (by omega))
 simp only [disk0];omega
theorem diskD_le {l:List Int} {p:Nat} (n:Int) (h:rdB l p 1400):(diskD l p n).2<=p+1200:=by
 have h1:=disk0_le h
 have h2:=odd_le l (disk0 l p).2 n
 have h3:=(noteD_le (l:=l) (p:=(oddB l (disk0 l p).2 n).2+1) 1 (rdB_le h (by omega))).1
 rw [diskD_eq]
 split
 ·simp only [diskBent]
  repeat' split
  all_goals simp only<;>omega
 ·simp only;omega
theorem playD_le50 {l:List Int} {p:Nat} (h:rdB l p 2000):(playD l p 50).2<=p+1000:=by
 have b:=pick_lt (l:=l) (p:=p) (n:=50) (rdB_le h (by omega):rdB l p 1) (by omega)
 have:=playR_le (l:=l) (pickB l p 50).toNat [] newW (p+1) (rdB_le h (by omega))
 simp only [playD];omega
theorem frontD_le {l:List Int} {p:Nat} (n:Int) (h:rdB l p 4000):(frontD l p n).2<=p+2500:=by
 have h1:=playD_le50 (l:=l) (p:=p) (rdB_le h (by omega))
 have h2:=odd_le l (playD l p 50).2 n
 have h3:=diskD_le (l:=l) (p:=(oddB l (playD l p 50).2 n).2+1) 2 (rdB_le h (by omega))
 have h4:=op_le (l:=l) (p:=(oddB l (playD l p 50).2 n).2+2) 2 (rdB_le h (by omega))
 rw [frontD_eq]
 split
 ·simp only [frontBent]
  repeat' split
  all_goals simp only<;>omega
 ·simp only;omega
theorem spec_l20Front_ok (l:List Int) (p:Nat) (n:Int) (hpre:rdB l p 4000/\n<1000000):FunOK Tryz.prog 57 2 [0] [(0,kRd l p),(1,kI n)] (·=[(2,kFrontO (frontD l p n).1),(0,kRd l (frontD l p n).2)]):=by
 refine fun_to (E:=⟨tab,ctOf [spec_rd_pick_c,spec_l20Op_c,spec_l20Play_c,spec_rd_odd_c,spec_l20Disk_c],73,[0],[(0,[0,1,4,7,20,21,72]),(1,[0,1,4,6,7,20,21,72]),(2,[0,1,4,7,20,21,72]),(3,[0,4,7,17,20,21,72]),(4,[0,4,7,19,20,21,72]),(5,[0,4,7,20,21,23,72]),(6,[0,4,7,20,21,72]),(7,[0,4,7,19,20,21,35,72]),(8,[0,4,7,20,21,72]),(9,[0,4,7,19,20,21,40,72]),(10,[0,4,7,20,21,72]),(11,[0,4,7,19,20,21,53,72]),(12,[0,4,7,20,21,72]),(13,[0,4,7,20,21,61,72]),(14,[0,4,7,20,21,66,72]),(15,[0,4,7,20,21,72]),(16,[0,4,7,20,21,72])],[],[(1,[(1000007,[])]),(2,[(1000003,[])]),(5,[(1000001,[])]),(6,[(1000008,[])]),(16,[(1000001,[])])],[],[]⟩) tab_ok mixed Tryz.func57 rfl Tryz.ntmps57 (rvs:=[.cell 4 38]) Tryz.results57 rfl fun hl=>?_
 refine cast (show (∃ (b:y_6),let k_9:Prop:=n_0<(playD b.1 b.2.1 b.2.2).1.2.front.way.length;let k_8:Prop:=q_j (playD b.1 b.2.1 b.2.2).1.2.front.way (frontD l p n).1.way;let k_7:Prop:=i_0<=i_0/\i_0<(zi (playD b.1 b.2.1 b.2.2).1.2.front.way.length);let k_6:Prop:=decide ((zi (playD b.1 b.2.1 b.2.2).1.2.front.way.length)>i_0)=true;let k_5:Prop:=(playD b.1 b.2.1 b.2.2).1.2.front.disk.safe=(frontD l p n).1.disk.safe;let k_4:Prop:=decide ((zi (playD b.1 b.2.1 b.2.2).1.2.front.way.length)>i_0)=false;let k_3:Prop:=q_f (playD b.1 b.2.1 b.2.2).1.2.front.disk.notes (frontD l p n).1.disk.notes;let k_2:Prop:=((playD b.1 b.2.1 b.2.2).1.2.front.way.length+n_1)*n_120<=n_140737488355328;let k_1:Prop:=k_3/\k_5/\k_8;((q_U l b.1/\zi p=zi b.2.1)/\i_50=b.2.2)/\(rdB b.1 b.2.1 n_2000/\b.2.2<=i_60)/\True/\True/\(∃ (b_1:y_6),((q_U b.1 b_1.1/\(zi (playD b.1 b.2.1 b.2.2).2)=zi b_1.2.1)/\n=b_1.2.2)/\(rdB b_1.1 b_1.2.1 n_1/\b_1.2.2<i_1000000)/\((oddB b_1.1 b_1.2.1 b_1.2.2).1=true->∃ (b_2:y_6),let k_11:Prop:=q_U b_2.1 l/\(zi (b_2.2.1+n_1))=(zi (frontD l p n).2);let k_10:Prop:=k_4->True/\k_1/\k_11;((q_U b_1.1 b_2.1/\(zi (oddB b_1.1 b_1.2.1 b_1.2.2).2)=zi b_2.2.1)/\i_5=b_2.2.2)/\rdB b_2.1 b_2.2.1 n_1/\((pickB b_2.1 b_2.2.1 b_2.2.2==i_0)=true->∃ (b_3:y_6),((q_U b_2.1 b_3.1/\(zi (b_2.2.1+n_1))=zi b_3.2.1)/\i_2=b_3.2.2)/\(rdB b_3.1 b_3.2.1 n_1400/\b_3.2.2<i_1000000)/\True/\(q_f (diskD b_3.1 b_3.2.1 b_3.2.2).1.notes (frontD l p n).1.disk.notes/\(diskD b_3.1 b_3.2.1 b_3.2.2).1.safe=(frontD l p n).1.disk.safe/\k_8)/\q_U b_3.1 l/\(zi (diskD b_3.1 b_3.2.1 b_3.2.2).2)=(zi (frontD l p n).2))/\((pickB b_2.1 b_2.2.1 b_2.2.2==i_0)=false->((pickB b_2.1 b_2.2.1 b_2.2.2==i_1)=true->∃ (b_3:y_6),((q_U b_2.1 b_3.1/\(zi (b_2.2.1+n_1))=zi b_3.2.1)/\i_9=b_3.2.2)/\rdB b_3.1 b_3.2.1 n_1/\(∃ (b_4:y_6),((q_U b_3.1 b_4.1/\(zi (b_3.2.1+n_1))=zi b_4.2.1)/\i_2=b_4.2.2)/\(rdB b_4.1 b_4.2.1 n_8/\b_4.2.2<i_1000000)/\k_2/\True/\(k_3/\k_5/\cnRs (appR (typ dFTx eFTxO (playD b.1 b.2.1 b.2.2).1.2.front.way) (raw [[cn_ (wr_ (pickB b_3.1 b_3.2.1 b_3.2.2-i_1)),cn_ (opB b_4.1 b_4.2.1 b_4.2.2).1.kind,cn_ (opB b_4.1 b_4.2.1 b_4.2.2).1.who,cn_ (opB b_4.1 b_4.2.1 b_4.2.2).1.inn,cn_ (opB b_4.1 b_4.2.1 b_4.2.2).1.code,cn_ (opB b_4.1 b_4.2.1 b_4.2.2).1.sec,cn_ (opB b_4.1 b_4.2.1 b_4.2.2).1.fam,cn_ (opB b_4.1 b_4.2.1 b_4.2.2).1.gen,CV.b false,CV.ow n_3 nilR,CV.ow n_3 nilR]]))=t_j (frontD l p n).1.way)/\q_U b_4.1 l/\(zi (opB b_4.1 b_4.2.1 b_4.2.2).2)=(zi (frontD l p n).2)))/\((pickB b_2.1 b_2.2.1 b_2.2.2==i_1)=false->((pickB b_2.1 b_2.2.1 b_2.2.2==i_2)=true->k_2/\True/\(k_3/\k_5/\cnRs (appR (typ dFTx eFTxO (playD b.1 b.2.1 b.2.2).1.2.front.way) (raw [[cn_ i_29,cn_ i_0,cn_ i_0,cn_ i_0,cn_ i_0,cn_ i_0,cn_ i_0,cn_ i_0,CV.b true,CV.ow n_3 nilR,CV.ow n_3 nilR]]))=t_j (frontD l p n).1.way)/\k_11)/\((pickB b_2.1 b_2.2.1 b_2.2.2==i_2)=false->((pickB b_2.1 b_2.2.1 b_2.2.2==i_3)=true->(k_6->k_7/\k_9/\True/\(k_3/\k_5/\cnRs (setF (typ dFTx eFTxO (playD b.1 b.2.1 b.2.2).1.2.front.way) n_0 n_9 (CV.ow n_3 (typ i_0 (fun (y:Int)=>[cn_ y]) [i_3,i_1])))=t_j (frontD l p n).1.way)/\k_11)/\k_10)/\((pickB b_2.1 b_2.2.1 b_2.2.2==i_3)=false->(k_6->k_7/\k_9/\k_9/\(((playD b.1 b.2.1 b.2.2).1.2.front.way.getD n_0 dFTx).know.length+n_1)*n_8<=n_140737488355328/\k_7/\k_9/\True/\(k_3/\k_5/\cnRs (setF (setF (typ dFTx eFTxO (playD b.1 b.2.1 b.2.2).1.2.front.way) n_0 n_10 CV.any) n_0 n_10 (CV.ow n_3 (appR (typ i_0 eI ((playD b.1 b.2.1 b.2.2).1.2.front.way.getD n_0 dFTx).know) (typ i_0 (fun (y:Int)=>[cn_ y]) [i_4]))))=t_j (frontD l p n).1.way)/\k_11)/\k_10)))))/\((oddB b_1.1 b_1.2.1 b_1.2.2).1=false->True/\k_1/\q_U b_1.1 l/\(zi (oddB b_1.1 b_1.2.1 b_1.2.2).2)=(zi (frontD l p n).2))))=_ by kernel_rfl) ?_
 delta i_0 i_9 i_1 i_5 i_2 i_3 i_4 wr_ zi n_0 n_8 n_140737488355328 n_1 n_3 cn_ n_10 i_1000000 t_U q_U n_2000 i_29 y_6 t_f q_f n_9 t_j q_j n_120 i_60 i_50 n_1400
 have hp:=hpre.1
 have h1:=playD_le50 (l:=l) (p:=p) (rdB_le hp (by omega))
 have h2:=odd_le l (playD l p 50).2 n
 have hW:=playD_tame l p 50
 have hw:=hW.wl
 have ho:=hW.ol
 rw [frontD_eq]
 simp only [zza,zzb,true_and,and_true,and_self,ne_eq,cI_app,cWrtO_app,cWrtS_app,cWrtO_1,cItemO_1,opr_ex,zcast,frz_nil,nil_map,Option.getD_none,Option.getD_some]
 generalize playD l p 50=A at *
 generalize oddB l A.2 n=Q at *
 refine ⟨rdB_le hp (by omega),by omega,rdB_le hp (by omega),hpre.2,fun hq=>?_,fun hq=>?_⟩
 ·simp only [hq,if_true]
  have b9:=pick_lt (l:=l) (p:=Q.2+1) (n:=9) (rdB_le hp (by omega):rdB l (Q.2+1) 1) (by omega)
  refine ⟨rdB_le hp (by omega),fun c0=>⟨rdB_le hp (by omega),by omega,?_⟩,fun c0=>⟨fun c1=>⟨rdB_le hp (by omega),rdB_le hp (by omega),by omega,by omega,?_⟩,fun c1=>⟨fun c2=>⟨by omega,?_⟩,fun c2=>⟨fun c3=>?_,fun c3=>?_⟩⟩⟩⟩
  ·simp [frontBent,c0]
  ·have e:IntKind.i64.wrap (pickB l (Q.2+1) 9-1)=pickB l (Q.2+1) 9-1:=IntWalk.i64_in _ (by omega)
   simp [frontBent,c0,c1,e]
  ·simp [frontBent,c0,c1,c2,dOpr]
  ·refine ⟨fun hw0=>?_,fun hw0=>?_⟩
   ·have hw0:0<A.1.2.front.way.length:=by omega
    refine ⟨by omega,by omega,hw0,?_,?_,?_,?_⟩
    ·simp [frontBent,c3,hw0]
    ·simp [frontBent,c3,hw0]
    ·rw [cSetTO _ _ _ _ ⟨(A.1.2.front.way.getD 0 dFTx).tx,(A.1.2.front.way.getD 0 dFTx).op,(A.1.2.front.way.getD 0 dFTx).yes,[3,1],(A.1.2.front.way.getD 0 dFTx).know⟩ (by simp)]
     simp only [frontBent,c0,c1,c2,c3,hw0,if_true,if_false];rfl
    ·simp [frontBent,c3]
   ·have hw0:¬ 0<A.1.2.front.way.length:=by omega
    simp only [frontBent,c0,c1,c2,c3,hw0,if_true,if_false]
    try exact ⟨rfl,rfl,rfl,rfl⟩
    try exact ⟨trivial,trivial,trivial,trivial⟩
  ·refine ⟨fun hw0=>?_,fun hw0=>?_⟩
   ·have hw0:0<A.1.2.front.way.length:=by omega
    have hk:=ris3_len (hW.way (A.1.2.front.way.getD 0 dFTx) (by rw [getD_lt hw0];exact List.getElem_mem _)).2
    refine ⟨by omega,by omega,hw0,hw0,by omega,by omega,by omega,hw0,?_,?_,?_,?_⟩
    ·simp only [frontBent,c0,c1,c2,c3,hw0,if_true,if_false]
    ·simp only [frontBent,c0,c1,c2,c3,hw0,if_true,if_false]
    ·rw [setF_setF,cSetTO _ _ _ _ ⟨(A.1.2.front.way.getD 0 dFTx).tx,(A.1.2.front.way.getD 0 dFTx).op,(A.1.2.front.way.getD 0 dFTx).yes,(A.1.2.front.way.getD 0 dFTx).can,(A.1.2.front.way.getD 0 dFTx).know++[4]⟩ (by simp)]
     simp only [frontBent,c0,c1,c2,c3,hw0,if_true,if_false]
    ·simp only [frontBent,c0,c1,c2,c3,if_true,if_false]
   ·have hw0:¬ 0<A.1.2.front.way.length:=by omega
    simp only [frontBent,c0,c1,c2,c3,hw0,if_true,if_false]
    try exact ⟨rfl,rfl,rfl,rfl⟩
    try exact ⟨trivial,trivial,trivial,trivial⟩
 ·simp [hq]
def spec_l20Front_c:Con Tryz.prog:=conP [.ptr,.lend] fun (b:List Int×Nat×Int) h=>spec_l20Front_ok (b.1) (b.2.1) (b.2.2) h
end Go.Proofs.AI
namespace Go.Proofs.AI
open Go.RowKit Go.Proofs
set_option linter.unusedVariables false
set_option linter.unusedSimpArgs false
set_option maxRecDepth 100000
def oddN (n:Note):Bool:=!(n.kind==2||n.kind==4)
theorem odd_all (l:List Note):(l.all fun n=>n.kind==2||n.kind==4)=!(l.any oddN):=by
 rw [List.all_eq_not_any_not]<;>rfl
theorem NoteOdd_ok (n:Note):FunOK Tryz.prog 70 1 [] [(0,kNoteS n)] (·=[(1,kB (oddN n))]):=by
 refine fun_to (E:=⟨tab,ctOf [],11,[],[(0,[1]),(1,[2])],[],[],[],[]⟩) tab_ok mixed Tryz.func70 rfl Tryz.ntmps70 (rvs:=[.tmp 2]) Tryz.results70 rfl fun hl=>?_
 refine cast (show (((n.kind != i_2)=true->(n.kind != i_4)=oddN n)/\((n.kind != i_2)=false->false=oddN n))=_ by kernel_rfl) ?_
 delta i_2 i_4
 simp only [zza,zzb,true_and,and_true,and_self,ne_eq,cI_app,cWrtO_app,cWrtS_app,cWrtO_1,cItemO_1,opr_ex,zcast,frz_nil,nil_map,Option.getD_none,Option.getD_some]
 simp only [oddN]
 refine ⟨fun h=>?_,fun h=>?_⟩
 ·rw [Bool.eq_iff_iff];simp [h]
 ·simp at h;simp [h]
def NoteOdd_c:Con Tryz.prog:=con0 [.lend] fun b:Note=>NoteOdd_ok b
theorem IndexOdd_ok (xs:List Note):FunOK Tryz.prog 116 2 [] [(0,k1 (sNotes xs)),(1,kF 70)] (·=[(2,kI (idxOf oddN xs))]):=by
 refine fun_to (E:=⟨tab,ctOf [NoteOdd_c],19,[],[(0,[0,1]),(1,[0,1,7,8]),(2,[0,1,7,8,9]),(3,[0,1,5,7,8]),(4,[0,1,5,7,8,16]),(5,[4]),(6,[0,1,7,8]),(7,[4])],[(0,⟨Nat,fun x=>[(0,(k1 (.sh 107 (typ dNote eNoteS xs)))),(1,(k1 (.vl (Value.func (Fn.func (70:FuncId)) { toList:=[] } { toList:=[] })))),(7,(k1 (.n .i64 ((↑xs.length:Int))))),(8,(k1 (.n .i64 (x:Int))))]⟩)],[],[],[]⟩) tab_ok mixed Tryz.func116 rfl Tryz.ntmps116 (rvs:=[.tmp 4]) Tryz.results116 rfl fun hl=>?_
 refine cast (show (let k_1:Prop:=Value.func (Fn.func (70:FuncId)) { toList:=[] } { toList:=[] }=Value.func (Fn.func (70:FuncId)) { toList:=[] } { toList:=[] };∃ (pre:Nat->Prop),∃ (μ:Nat->Nat),∃ (x0:Nat),(q_e xs xs/\k_1/\zi xs.length=zi xs.length/\i_0=zi x0)/\pre x0/\(∀ (x:Nat),pre x->(decide (zi x<zi xs.length)=true->(i_0<=zi x/\zi x<zi xs.length)/\(∃ (b:Note),((g_Note xs x).kind=b.kind/\(g_Note xs x).tx=b.tx/\q_S (g_Note xs x).locks b.locks/\q_c (g_Note xs x).writes b.writes)/\(oddN b=true->zi x=idxOf oddN xs)/\(oddN b=false->∃ (y:Nat),(q_e xs xs/\k_1/\zi xs.length=zi xs.length/\wr_ ((zi x)+i_1)=zi y)/\pre y/\μ y<μ x)))/\(decide (zi x<zi xs.length)=false->(-1:Int)=idxOf oddN xs)))=_ by kernel_rfl) ?_
 delta i_0 i_1 wr_ zi t_c q_c t_S q_S g_Note t_e q_e
 have hx:xs.length<=9223372036854775807:=hl.1 _ (List.mem_singleton.2 rfl)
 simp only [zza,zzb,true_and,and_true,and_self,ne_eq,cI_app,cWrtO_app,cWrtS_app,cWrtO_1,cItemO_1,opr_ex,zcast,frz_nil,nil_map,Option.getD_none,Option.getD_some]
 refine ⟨fun i=>i<=xs.length/\∀ j,j<i->oddN (xs.getD j dNote)=false,⟨by simp,fun j hj=>absurd hj (Nat.not_lt_zero _)⟩,fun i=>xs.length-i,fun i hi=>?_⟩
 obtain ⟨h1,h2⟩:=hi
 refine ⟨fun hlt=>⟨by omega,by omega,fun hp=>?_,fun hp=>⟨i+1,wrapN (by omega),⟨by omega,below_succ h2 hp⟩,by simp only;omega⟩⟩,fun hge=>?_⟩
 ·exact (idx_hit (p:=oddN) (by omega) hp h2).symm
 ·exact (idx_miss (p:=oddN) (d:=dNote) fun j hj=>h2 j (by omega)).symm
def IndexOdd_c:Con Tryz.prog:=con0 [.lend,.lend] fun b:List Note=>IndexOdd_ok b
theorem ContainsOdd_ok (xs:List Note):FunOK Tryz.prog 71 2 [] [(0,k1 (sNotes xs)),(1,kF 70)] (·=[(2,kB (xs.any oddN))]):=by
 refine fun_to (E:=⟨tab,ctOf [IndexNote_c],9,[],[(0,[0,1]),(1,[4])],[],[],[],[(1,[IndexOdd_c])]⟩) tab_ok mixed Tryz.func71 rfl Tryz.ntmps71 (rvs:=[.tmp 4]) Tryz.results71 rfl fun hl=>?_
 refine cast (show (∃ (b:List Note),(q_e xs b/\Value.func (Fn.func (70:FuncId)) { toList:=[] } { toList:=[] }=Value.func (Fn.func (70:FuncId)) { toList:=[] } { toList:=[] })/\decide (idxOf oddN b≥i_0)=xs.any oddN)=_ by kernel_rfl) ?_
 delta i_0 t_e q_e
 simp only [zza,zzb,true_and,and_true,and_self,ne_eq,cI_app,cWrtO_app,cWrtS_app,cWrtO_1,cItemO_1,opr_ex,zcast,frz_nil,nil_map,Option.getD_none,Option.getD_some]
 exact idx_ge _ _
def ContainsOdd_c:Con Tryz.prog:=con0 [.lend,.lend] fun b:List Note=>ContainsOdd_ok b
theorem impl_servicesOk_ok (l:List Int):FunOK Tryz.prog 72 1 [] [(0,k1 (sI l))] (·=[(1,kB (risB l))]):=by
 refine fun_to (E:=⟨tab,ctOf [impl_isService_c],29,[],[(0,[0]),(1,[0,5,6,7]),(2,[0,5,6,7,8]),(3,[0,3,4,5,6,7]),(4,[0,5,6,7,27]),(5,[2]),(6,[0,5,6,7]),(7,[2])],[(0,⟨Nat,fun x=>[(0,(k1 (.sh 3 (typ (0:Int) eI l)))),(5,(k1 (.sh 3 (typ (0:Int) eI l)))),(6,(k1 (.n .i64 ((↑l.length:Int))))),(7,(k1 (.n .i64 (x:Int))))]⟩)],[],[],[]⟩) tab_ok mixed Tryz.func72 rfl Tryz.ntmps72 (rvs:=[.tmp 2]) Tryz.results72 rfl fun hl=>?_
 refine cast (show (let k_1:Prop:=zi l.length=zi l.length;∃ (pre:Nat->Prop),∃ (μ:Nat->Nat),∃ (x0:Nat),(q_I l l/\q_I l l/\k_1/\i_0=zi x0)/\pre x0/\(∀ (x:Nat),let k_2:Prop:=∃ (y:Nat),(q_I l l/\q_I l l/\k_1/\wr_ ((zi x)+i_1)=zi y)/\pre y/\μ y<μ x;pre x->(decide (zi x<zi l.length)=true->(i_0<=zi x/\zi x<zi l.length)/\(∃ (b:Int),g_Int l x=b/\((!inR b i_1 i_3)=false->(decide ((zi x)>i_0)=true->(i_0<=wr_ ((zi x)-i_1)/\wr_ ((zi x)-i_1)<zi l.length)/\(decide (g_Int l x<=l.getD (wr_ ((zi x)-i_1)).toNat i_0)=true->false=risB l)/\(decide (g_Int l x<=l.getD (wr_ ((zi x)-i_1)).toNat i_0)=false->k_2))/\(decide ((zi x)>i_0)=false->k_2))/\((!inR b i_1 i_3)=true->false=risB l)))/\(decide (zi x<zi l.length)=false->true=risB l)))=_ by kernel_rfl) ?_
 delta i_0 i_1 i_3 wr_ g_Int zi t_I q_I
 have hx:l.length<=9223372036854775807:=hl.1 (.c (sI l)) (by simp)
 simp only [zza,zzb,true_and,and_true,and_self,ne_eq,cI_app,cWrtO_app,cWrtS_app,cWrtO_1,cItemO_1,opr_ex,zcast,frz_nil,nil_map,Option.getD_none,Option.getD_some]
 refine ⟨fun i=>i<=l.length/\∀ j,j<i->risP l j=true,⟨by omega,fun j hj=>absurd hj (Nat.not_lt_zero _)⟩,fun i=>l.length-i,fun i hp=>?_⟩
 obtain ⟨h1,h2⟩:=hp
 have bad:i<l.length->risP l i=false->false=risB l:=fun hlt h=>(range_hit hlt h).symm
 have go:i<l.length->risP l i=true->∃ y:Nat,IntKind.i64.wrap ((i:Int)+1)=(y:Int)/\(y<=l.length/\∀ j,j<y->risP l j=true)/\l.length-y<l.length-i:=fun hlt h =>
  ⟨i+1,wrapN (by omega),⟨by omega,below_succ h2 h⟩,by omega⟩
 refine ⟨fun hlt=>⟨by omega,hlt,fun e1=>⟨fun e2=>?_,fun e2=>go (by omega) ?_⟩,fun e1=>bad (by omega) ?_⟩,fun hge=>?_⟩
 ·have hw:IntKind.i64.wrap ((i:Int)-1)=((i-1:Nat):Int):=by rw [IntWalk.i64_in _ (by omega)];omega
  rw [hw,Int.toNat_natCast]
  have h0:(i==0)=false:=by simp;omega
  have e1:inR (l.getD i 0) 1 3=true:=by simpa using e1
  refine ⟨by omega,by omega,fun e3=>bad (by omega) ?_,fun e3=>go (by omega) ?_⟩
  ·simp only [risP,e1,h0,Bool.true_and,Bool.false_or];exact decide_eq_false (by omega)
  ·simp only [risP,e1,h0,Bool.true_and,Bool.false_or];exact decide_eq_true (by omega)
 ·have e1:inR (l.getD i 0) 1 3=true:=by simpa using e1
  have h0:(i==0)=true:=by simp;omega
  simp only [risP,e1,h0,Bool.true_or,Bool.and_self]
 ·have e1:inR (l.getD i 0) 1 3=false:=by simpa using e1
  simp only [risP,e1,Bool.false_and]
 ·exact (range_miss (fun j hj=>h2 j (by omega))).symm
def impl_servicesOk_c:Con Tryz.prog:=con0 [.lend] fun b:List Int=>impl_servicesOk_ok b
theorem impl_FroOk_ok (f:Front):FunOK Tryz.prog 30 1 [] [(0,kFrontS f)] (·=[(1,kB (froB f))]):=by
 refine fun_to (E:=⟨tab,ctOf [impl_OpOk_c,impl_isTx_c,impl_DiskOk_c,impl_of_c,ContainsNote_c,impl_servicesOk_c],90,[],[(0,[1]),(1,[1,3]),(2,[1,22]),(3,[2]),(4,[1,23,24,25,26]),(5,[1,23,24,25,26,27]),(6,[1,4,5,23,24,25,26]),(7,[1,5,23,24,25,26,62]),(8,[2]),(9,[1,23,24,25,26,88]),(10,[2]),(11,[1,23,24,25,26]),(12,[2])],[(0,⟨Nat,fun x=>[(1,⟨.box,[.c (.sh 107 (typ dNote eNoteS f.disk.notes)),.c (.n .i64 f.disk.safe),.c (.sh 69 (typ dFTx eFTxS f.way))],[]⟩),(23,⟨.one,[.pr 1 2 0],[]⟩),(24,(k1 (.sh 69 (typ dFTx eFTxS f.way)))),(25,(k1 (.n .i64 ((↑f.way.length:Int))))),(26,(k1 (.n .i64 (x:Int))))]⟩)],[],[],[(2,[ContainsOdd_c])]⟩) tab_ok mixed Tryz.func30 rfl Tryz.ntmps30 (rvs:=[.tmp 2]) Tryz.results30 rfl fun hl=>?_
 refine cast (show (let k_3:Prop:=zi f.way.length=zi f.way.length;let k_2:Prop:=n_1=n_1/\n_2=n_2/\true=true;let k_1:Prop:=q_e f.disk.notes f.disk.notes/\f.disk.safe=f.disk.safe/\q_h f.way f.way;∃ (b:Disk),(q_e f.disk.notes b.notes/\f.disk.safe=b.safe)/\((!diskB b)=false->∃ (b:List Note),(q_e f.disk.notes b/\Value.func (Fn.func n_70) #[] #[]=Value.func (Fn.func (70:FuncId)) { toList:=[] } { toList:=[] })/\(b.any oddN=false->(decide ((zi f.way.length)>i_30)=true->false=froB f)/\(decide ((zi f.way.length)>i_30)=false->∃ (pre:Nat->Prop),∃ (μ:Nat->Nat),∃ (x0:Nat),(k_1/\k_2/\q_h f.way f.way/\k_3/\i_0=zi x0)/\pre x0/\(∀ (x:Nat),let k_5:Prop:=∃ (y:Nat),(k_1/\k_2/\q_h f.way f.way/\k_3/\wr_ ((zi x)+i_1)=zi y)/\pre y/\μ y<μ x;let k_4:Prop:=∃ (b:List Int),q_I (g_FTx f.way x).can b/\((!risB b)=false->∃ (b:List Int),q_I (g_FTx f.way x).know b/\((!risB b)=true->false=froB f)/\((!risB b)=false->∃ (b:Disk×Int),((q_e f.disk.notes b.1.notes/\f.disk.safe=b.1.safe)/\(g_FTx f.way x).tx=b.2)/\((if true=true then !(g_FTx f.way x).yes==(ofN b.1.notes b.2==i_2) else (g_FTx f.way x).yes==(ofN b.1.notes b.2==i_2))=false->((!(g_FTx f.way x).yes)=true->∃ (b:Opr),((g_FTx f.way x).op.kind=b.kind/\(g_FTx f.way x).op.who=b.who/\(g_FTx f.way x).op.inn=b.inn/\(g_FTx f.way x).op.code=b.code/\(g_FTx f.way x).op.sec=b.sec/\(g_FTx f.way x).op.fam=b.fam/\(g_FTx f.way x).op.gen=b.gen)/\((!opOk b)=false->(decide ((zi (g_FTx f.way x).know.length)>i_0)=true->false=froB f)/\(decide ((zi (g_FTx f.way x).know.length)>i_0)=false->k_5))/\((!opOk b)=true->false=froB f))/\((!(g_FTx f.way x).yes)=false->k_5))/\((if true=true then !(g_FTx f.way x).yes==(ofN b.1.notes b.2==i_2) else (g_FTx f.way x).yes==(ofN b.1.notes b.2==i_2))=true->false=froB f)))/\((!risB b)=true->false=froB f);pre x->(decide (zi x<zi f.way.length)=true->(i_0<=zi x/\zi x<zi f.way.length)/\(∃ (b:Int),(g_FTx f.way x).tx=b/\((!inR b i_0 i_29)=false->(decide ((zi x)>i_0)=true->(i_0<=wr_ ((zi x)-i_1)/\wr_ ((zi x)-i_1)<zi f.way.length)/\(decide ((g_FTx f.way x).tx<=(f.way.getD (wr_ ((zi x)-i_1)).toNat dFTx).tx)=false->k_4)/\(decide ((g_FTx f.way x).tx<=(f.way.getD (wr_ ((zi x)-i_1)).toNat dFTx).tx)=true->false=froB f))/\(decide ((zi x)>i_0)=false->k_4))/\((!inR b i_0 i_29)=true->false=froB f)))/\(decide (zi x<zi f.way.length)=false->true=froB f))))/\(b.any oddN=true->false=froB f))/\((!diskB b)=true->false=froB f))=_ by kernel_rfl) ?_
 delta i_0 i_1 i_2 wr_ zi t_I q_I n_1 n_2 i_29 i_30 t_e q_e g_FTx t_h q_h n_70
 have hx:f.disk.notes.length<=9223372036854775807:=hl.1 (.c (sNotes f.disk.notes)) (by simp)
 have hy:f.way.length<=9223372036854775807:=hl.1 (.c (sFTxs f.way)) (by simp)
 simp only [zza,zzb,true_and,and_true,and_self,ne_eq,cI_app,cWrtO_app,cWrtS_app,cWrtO_1,cItemO_1,opr_ex,zcast,frz_nil,nil_map,Option.getD_none,Option.getD_some,if_true]
 refine ⟨fun h1=>⟨fun h2=>⟨fun h3=>?_,fun h3=>?_⟩,fun h2=>?_⟩,fun h1=>?_⟩
 ·have:¬ f.way.length<=30:=by omega
  simp [froB,this]
 ·have h1:diskB f.disk=true:=by simpa using h1
  have h3:f.way.length<=30:=by omega
  have h2:f.disk.notes.any oddN=false:=h2
  have hn:froB f=(List.range f.way.length).all (wayP f):=by simp only [froB,odd_all,h1,h2,h3,decide_true,Bool.not_false,Bool.true_and,Bool.and_true]
  rw [hn]
  refine ⟨fun i=>i<=f.way.length/\∀ j,j<i->wayP f j=true,⟨by omega,fun j hj=>absurd hj (Nat.not_lt_zero _)⟩,fun i=>f.way.length-i,fun i hp=>?_⟩
  obtain ⟨g1,g2⟩:=hp
  refine ⟨fun hlt=>?_,fun hge=>(range_miss (fun j hj=>g2 j (by omega))).symm⟩
  have hlt:i<f.way.length:=by omega
  have bad:wayP f i=false->false=(List.range f.way.length).all (wayP f):=fun h=>(range_hit hlt h).symm
  have go:wayP f i=true->∃ y:Nat,IntKind.i64.wrap ((i:Int)+1)=(y:Int)/\(y<=f.way.length/\∀ j,j<y->wayP f j=true)/\f.way.length-y<f.way.length-i:=fun h=>⟨i+1,wrapN (by omega),⟨by omega,below_succ g2 h⟩,by omega⟩
  have hw:0<i->IntKind.i64.wrap ((i:Int)-1)=((i-1:Nat):Int):=fun h0=>by rw [IntWalk.i64_in _ (by omega)];omega
  have hP:wayP f i=(inR (f.way.getD i dFTx).tx 0 29&&(i==0||decide ((f.way.getD (i-1) dFTx).tx<(f.way.getD i dFTx).tx))&&risB (f.way.getD i dFTx).can&&risB (f.way.getD i dFTx).know&&((f.way.getD i dFTx).yes==(ofN f.disk.notes (f.way.getD i dFTx).tx==2))&&((f.way.getD i dFTx).yes||(opOk (f.way.getD i dFTx).op&&(f.way.getD i dFTx).know.length==0))):=rfl
  generalize f.way.getD i dFTx=T at hP ⊢
  clear h2
  have tail:inR T.tx 0 29=true->(i==0||decide ((f.way.getD (i-1) dFTx).tx<T.tx))=true ->
   (((!risB T.can)=false->((!risB T.know)=true->false=(List.range f.way.length).all (wayP f))/\((!risB T.know)=false->(((!T.yes==(ofN f.disk.notes T.tx==2))=false->((!T.yes)=true->((!opOk T.op)=false->(0<(T.know.length:Int)->false=(List.range f.way.length).all (wayP f))/\(¬ 0<(T.know.length:Int)->∃ y:Nat,IntKind.i64.wrap ((i:Int)+1)=(y:Int)/\(y<=f.way.length/\∀ j,j<y->wayP f j=true)/\f.way.length-y<f.way.length-i))/\((!opOk T.op)=true->false=(List.range f.way.length).all (wayP f)))/\((!T.yes)=false->∃ y:Nat,IntKind.i64.wrap ((i:Int)+1)=(y:Int)/\(y<=f.way.length/\∀ j,j<y->wayP f j=true)/\f.way.length-y<f.way.length-i))/\((!T.yes==(ofN f.disk.notes T.tx==2))=true->false=(List.range f.way.length).all (wayP f)))))/\((!risB T.can)=true->false=(List.range f.way.length).all (wayP f))):=fun a1 a2=>by
   rw [a1,a2] at hP
   refine ⟨fun e4=>⟨fun e5=>bad ?_,fun e5=>⟨fun e6=>⟨fun e7=>⟨fun e8=>⟨fun e9=>bad ?_,fun e9=>go ?_⟩,fun e8=>bad ?_⟩,fun e7=>go ?_⟩,fun e6=>bad ?_⟩⟩,fun e4=>bad ?_⟩
   ·rw [hP];simp at e4 e5;simp [e5]
   ·have:¬ T.know.length=0:=by omega
    rw [hP];simp at e7;simp [e7,this]
   ·have:T.know.length=0:=by omega
    simp at e4 e5 e6 e7 e8
    rw [hP,e4,e5,e8,this];simp [e7] at e6 ⊢;simp [e6]
   ·rw [hP];simp at e7 e8;simp [e7,e8]
   ·simp at e4 e5 e6 e7
    rw [hP,e4,e5];simp [e7] at e6 ⊢;simp [e6]
   ·rw [hP];cases hy1:T.yes<;>simp [hy1] at e6 ⊢<;>simp [e6]
   ·rw [hP];simp at e4;simp [e4]
  refine ⟨by omega,by omega,fun e1=>⟨fun e2=>?_,fun e2=>?_⟩,fun e1=>bad (by rw [hP];simp at e1;simp [e1])⟩
  ·rw [hw (by omega),Int.toNat_natCast]
   have h0:(i==0)=false:=by simp;omega
   refine ⟨by omega,by omega,fun e3=>?_,fun e3=>bad (by rw [hP,h0,decide_eq_false (show ¬ (f.way.getD (i-1) dFTx).tx<T.tx by omega)];simp only [Bool.false_or,Bool.and_false,Bool.false_and])⟩
   exact tail (by simpa using e1) (by rw [h0];simp;simpa using e3)
  ·exact tail (by simpa using e1) (by simp;exact .inl (by omega))
 ·have h2:f.disk.notes.any oddN=true:=h2
  simp only [froB,odd_all,h2,Bool.not_true,Bool.and_false,Bool.false_and]
 ·have h1:diskB f.disk=false:=by simpa using h1
  simp only [froB,h1,Bool.false_and]
def impl_FroOk_c:Con Tryz.prog:=con0 [.lend] fun b:Front=>impl_FroOk_ok b
end Go.Proofs.AI
namespace Go.Proofs.AI
open Go.RowKit Go.Proofs
set_option linter.unusedVariables false
set_option linter.unusedSimpArgs false
set_option maxRecDepth 100000
theorem impl_FroState_copied_ok (f:Front) (hpre:smallF f):FunOK Tryz.prog 46 1 [] [(0,kFrontS f)] (·=[(1,kFrontO f)]):=by
 refine fun_to (E:=⟨tab,ctOf [impl_LogDisk_copied_c,CloneI_c],33,[],[(0,[1,2,3,32]),(1,[1,2,3,32]),(2,[1,2,3,10,11,12,13,32]),(3,[1,2,3,10,11,12,13,14,32]),(4,[1,2,3,5,10,11,12,13,32]),(5,[1,2,3,5,10,11,12,13,32]),(6,[1,2,3,10,11,12,13,32]),(7,[1,2,3,10,11,12,13,32]),(8,[2,3,32])],[(0,⟨List FTx×Nat,fun x=>[(1,⟨.box,[.c (.sh 107 (typ dNote eNoteS f.disk.notes)),.c (.n .i64 f.disk.safe),.c (.sh 69 (typ dFTx eFTxS f.way))],[]⟩),(2,⟨.box,[.c (.ow 107 nilR),.c (.n .i64 ((0:Int))),.c (.ow 69 nilR)],[]⟩),(3,⟨.box,[.c (.ow 107 (typ dNote eNoteO f.disk.notes)),.c (.n .i64 f.disk.safe),.c (oFTxs (x.1))],[]⟩),(10,⟨.one,[.pr 1 2 0],[]⟩),(11,(k1 (.sh 69 (typ dFTx eFTxS f.way)))),(12,(k1 (.n .i64 ((↑f.way.length:Int))))),(13,(k1 (.n .i64 (x.2:Int))))]⟩)],[(6,[(1000002,[])])],[],[]⟩) tab_ok mixed Tryz.func46 rfl Tryz.ntmps46 (rvs:=[.cell 2 38]) Tryz.results46 rfl fun hl=>?_
 refine cast (show (let k_4:Prop:=f.disk.safe=f.disk.safe;let k_3:Prop:=n_1=n_1/\n_2=n_2/\true=true;let k_2:Prop:=cnRs nilR=cnRs nilR/\i_0=i_0/\cnRs nilR=cnRs nilR;let k_1:Prop:=q_e f.disk.notes f.disk.notes/\k_4/\q_h f.way f.way;∃ (b:Disk),(q_e f.disk.notes b.notes/\f.disk.safe=b.safe)/\smallD b/\(∃ (pre:List FTx×Nat->Prop),∃ (μ:List FTx×Nat->Nat),∃ (x0:List FTx×Nat),(k_1/\k_2/\(q_f b.notes f.disk.notes/\b.safe=f.disk.safe/\cnRs nilR=t_j x0.1)/\k_3/\q_h f.way f.way/\zi f.way.length=zi f.way.length/\i_0=zi x0.2)/\pre x0/\(∀ (x:List FTx×Nat),pre x->(decide (zi x.2<zi f.way.length)=true->(i_0<=zi x.2/\zi x.2<zi f.way.length)/\(∃ (b:List Int),q_I (g_FTx f.way x.2).can b/\b.length<=n_1000/\(∃ (b_1:List Int),q_I (g_FTx f.way x.2).know b_1/\b_1.length<=n_1000/\(x.1.length+n_1)*n_120<=n_140737488355328/\(∃ (y:List FTx×Nat),(k_1/\k_2/\(q_f f.disk.notes f.disk.notes/\k_4/\cnRs (appR (typ dFTx eFTxO x.1) (raw [[cn_ (g_FTx f.way x.2).tx,cn_ (g_FTx f.way x.2).op.kind,cn_ (g_FTx f.way x.2).op.who,cn_ (g_FTx f.way x.2).op.inn,cn_ (g_FTx f.way x.2).op.code,cn_ (g_FTx f.way x.2).op.sec,cn_ (g_FTx f.way x.2).op.fam,cn_ (g_FTx f.way x.2).op.gen,CV.b (g_FTx f.way x.2).yes,CV.ow n_3 (typ i_0 eI b),CV.ow n_3 (typ i_0 eI b_1)]]))=t_j y.1)/\k_3/\q_h f.way f.way/\zi f.way.length=zi f.way.length/\wr_ ((zi x.2)+i_1)=zi y.2)/\pre y/\μ y<μ x))))/\(decide (zi x.2<zi f.way.length)=false->q_f f.disk.notes f.disk.notes/\k_4/\q_j x.1 f.way))))=_ by kernel_rfl) ?_
 delta i_0 i_1 wr_ zi t_I q_I n_140737488355328 n_1 n_3 n_1000 cn_ n_2 t_e q_e t_f q_f g_FTx t_h q_h t_j q_j n_120
 obtain ⟨p1,p2,p3⟩:=hpre
 simp only [zza,zzb,true_and,and_true,and_self,ne_eq,cI_app,cWrtO_app,cWrtS_app,cWrtO_1,cItemO_1,opr_ex,zcast,frz_nil,nil_map,Option.getD_none,Option.getD_some]
 refine ⟨p1,fun x=>x.2<=f.way.length/\x.1=f.way.take x.2,⟨by omega,rfl⟩,fun x=>f.way.length-x.2,fun a i hp=>?_⟩
 obtain ⟨h1,h2⟩:=hp
 simp only at h1 h2
 subst h2
 refine ⟨fun hlt=>?_,fun hge=>?_⟩
 ·have hm:f.way.getD i dFTx∈f.way:=by rw [getD_lt (by omega)];exact List.getElem_mem _
  refine ⟨by omega,hlt,(p3 _ hm).1,(p3 _ hm).2,by rw [List.length_take];omega,f.way.take (i+1),?_,i+1,wrapN (by omega),⟨by simp only;omega,rfl⟩,by simp only;omega⟩
  rw [take_succ (d:=dFTx) (by omega)]
  simp
 ·have:i=f.way.length:=by omega
  subst this
  simp
def impl_FroState_copied_c:Con Tryz.prog:=conP [.lend] fun (b:Front) h=>impl_FroState_copied_ok b h
theorem TxIs_ok (t:FTx) (tx:Int):FunOK Tryz.prog 130 2 [] [(0,kFTxS t),(1,k1 (.rp [.n .i64 tx]))] (·=[(2,kB (t.tx==tx))]):=by
 refine fun_to (E:=⟨tab,ctOf [],8,[],[(0,[1,2]),(1,[3])],[],[],[],[]⟩) tab_ok mixed Tryz.func130 rfl Tryz.ntmps130 (rvs:=[.tmp 3]) Tryz.results130 rfl fun hl=>?_
 refine cast (show ((t.tx==tx)=(t.tx==tx))=_ by kernel_rfl) ?_
 simp only [zza,zzb,true_and,and_true,and_self,ne_eq,cI_app,cWrtO_app,cWrtS_app,cWrtO_1,cItemO_1,opr_ex,zcast,frz_nil,nil_map,Option.getD_none,Option.getD_some]
 done
def TxIs_c:Con Tryz.prog:=con0 [.lend] fun b:FTx×Int=>TxIs_ok (b.1) (b.2)
theorem IndexTx_ok (xs:List FTx) (tx:Int):FunOK Tryz.prog 129 2 [] [(0,k1 (sFTxs xs)),(1,k1 (.fn 130 [.rp [.n .i64 tx]]))] (·=[(2,kI (atF xs tx))]):=by
 refine fun_to (E:=⟨tab,ctOf [TxIs_c],19,[],[(0,[0,1]),(1,[0,1,7,8]),(2,[0,1,7,8,9]),(3,[0,1,5,7,8]),(4,[0,1,5,7,8,16]),(5,[4]),(6,[0,1,7,8]),(7,[4])],[(0,⟨Nat,fun x=>[(0,(k1 (.sh 69 (typ dFTx eFTxS xs)))),(1,(k1 (.fn 130 ([CV.rp [CV.n .i64 tx]])))),(7,(k1 (.n .i64 ((↑xs.length:Int))))),(8,(k1 (.n .i64 (x:Int))))]⟩)],[],[],[]⟩) tab_ok mixed Tryz.func129 rfl Tryz.ntmps129 (rvs:=[.tmp 4]) Tryz.results129 rfl fun hl=>?_
 refine cast (show (let k_1:Prop:=cnR [CV.rp [cn_ tx]]=cnR [CV.rp [cn_ tx]];∃ (pre:Nat->Prop),∃ (μ:Nat->Nat),∃ (x0:Nat),(q_h xs xs/\k_1/\zi xs.length=zi xs.length/\i_0=zi x0)/\pre x0/\(∀ (x:Nat),pre x->(decide (zi x<zi xs.length)=true->(i_0<=zi x/\zi x<zi xs.length)/\(∃ (b:FTx×Int),(((g_FTx xs x).tx=b.1.tx/\(g_FTx xs x).op.kind=b.1.op.kind/\(g_FTx xs x).op.who=b.1.op.who/\(g_FTx xs x).op.inn=b.1.op.inn/\(g_FTx xs x).op.code=b.1.op.code/\(g_FTx xs x).op.sec=b.1.op.sec/\(g_FTx xs x).op.fam=b.1.op.fam/\(g_FTx xs x).op.gen=b.1.op.gen/\(g_FTx xs x).yes=b.1.yes/\q_I (g_FTx xs x).can b.1.can/\q_I (g_FTx xs x).know b.1.know)/\cnR [cn_ tx]=cnR [cn_ b.2])/\((b.1.tx==b.2)=true->zi x=atF xs tx)/\((b.1.tx==b.2)=false->∃ (y:Nat),(q_h xs xs/\k_1/\zi xs.length=zi xs.length/\wr_ ((zi x)+i_1)=zi y)/\pre y/\μ y<μ x)))/\(decide (zi x<zi xs.length)=false->(-1:Int)=atF xs tx)))=_ by kernel_rfl) ?_
 delta i_0 i_1 wr_ zi t_I q_I cn_ g_FTx t_h q_h
 have hx:xs.length<=9223372036854775807:=hl.1 _ (List.mem_singleton.2 rfl)
 simp only [zza,zzb,true_and,and_true,and_self,ne_eq,cI_app,cWrtO_app,cWrtS_app,cWrtO_1,cItemO_1,opr_ex,zcast,frz_nil,nil_map,Option.getD_none,Option.getD_some]
 refine ⟨fun i=>i<=xs.length/\∀ j,j<i->(fun t:FTx=>t.tx==tx) (xs.getD j dFTx)=false,⟨by simp,fun j hj=>absurd hj (Nat.not_lt_zero _)⟩,fun i=>xs.length-i,fun i hi=>?_⟩
 obtain ⟨h1,h2⟩:=hi
 refine ⟨fun hlt=>⟨by omega,by omega,tx,rfl,fun hp=>?_,fun hp=>⟨i+1,wrapN (by omega),⟨by omega,below_succ h2 (by simpa using hp)⟩,by simp only;omega⟩⟩,fun hge=>?_⟩
 ·exact (idx_hit (p:=fun t:FTx=>t.tx==tx) (d:=dFTx) (by omega) (by simpa using hp) h2).symm
 ·exact (idx_miss (p:=fun t:FTx=>t.tx==tx) (d:=dFTx) fun j hj=>h2 j (by omega)).symm
def IndexTx_c:Con Tryz.prog:=con0 [.lend,.lend] fun b:List FTx×Int=>IndexTx_ok (b.1) (b.2)
theorem impl_FroState_find_ok (f:Front) (tx:Int):FunOK Tryz.prog 91 2 [0] [(0,⟨.box,cKFrontO f,[]⟩),(1,kI tx)] (·=[(2,kI (atF f.way tx)),(0,⟨.box,cKFrontO f,[]⟩)]):=by
 refine fun_to (E:=⟨tab,ctOf [],11,[0],[(0,[0,3]),(1,[0,4])],[],[],[],[(1,[IndexTx_c])]⟩) tab_ok mixed Tryz.func91 rfl Tryz.ntmps91 (rvs:=[.tmp 4]) Tryz.results91 rfl fun hl=>?_
 refine cast (show (True/\∃ (b:List FTx×Int),(cnRs (frozenRs (typ dFTx eFTxO f.way))=t_h b.1/\cnR [CV.rp [cn_ tx]]=cnR [CV.rp [cn_ b.2]])/\atF b.1 b.2=atF f.way tx/\q_f f.disk.notes f.disk.notes/\f.disk.safe=f.disk.safe/\q_j f.way f.way)=_ by kernel_rfl) ?_
 delta cn_ t_f q_f t_h t_j q_j
 simp only [zza,zzb,true_and,and_true,and_self,ne_eq,cI_app,cWrtO_app,cWrtS_app,cWrtO_1,cItemO_1,opr_ex,zcast,frz_nil,nil_map,Option.getD_none,Option.getD_some]
 exact ⟨tx,rfl,rfl⟩
def impl_FroState_find_c:Con Tryz.prog:=con0 [.ptr,.lend] fun b:Front×Int=>impl_FroState_find_ok (b.1) (b.2)
def toldF (kind tx:Int) (o:Opr) (ps:List Int):List Msg:=ps.map fun p=>⟨kind,p,0,tx,o⟩
theorem told_send {k tx:Int} {o:Opr} {ps:List Int} (h:k=1∨o=dOpr):toldF k tx o ps=sendF k tx o ps:=by
 simp only [toldF,sendF]
 rcases h with h | h
 ·simp only [h,if_true]
 ·simp only [h,ite_self]
theorem impl_told_ok (kind:Int) (tx:Int) (o:Opr) (ps:List Int) (hpre:ps.length<=1000):FunOK Tryz.prog 95 4 [] [(0,kI kind),(1,kI tx),(2,kOp o),(3,k1 (sI ps))] (·=[(4,k1 (oMsgs (toldF kind tx o ps)))]):=by
 refine fun_to (E:=⟨tab,ctOf [],28,[],[(0,[0,1,3,6,9,18,23,24,25]),(1,[0,1,3,6,9,18,23,24,25]),(2,[0,1,3,6,9,12,13,14,18,23,24,25]),(3,[0,1,3,6,9,12,13,14,15,18,23,24,25]),(4,[0,1,3,6,9,11,12,13,14,18,23,24,25]),(5,[0,1,3,6,9,12,13,14,18,23,24,25]),(6,[0,1,3,6,9,12,13,14,18,23,24,25]),(7,[8,9,18,23,24,25,27])],[(0,⟨List Msg×Nat,fun x=>[(0,(k1 (.n .i64 kind))),(1,(k1 (.n .i64 tx))),(3,(k1 (.sh 3 (typ (0:Int) eI ps)))),(6,⟨.box,[.c (.n .i64 o.kind),.c (.n .i64 o.who),.c (.n .i64 o.inn),.c (.n .i64 o.code),.c (.n .i64 o.sec),.c (.n .i64 o.fam),.c (.n .i64 o.gen)],[]⟩),(9,(k1 (oMsgs (x.1)))),(12,(k1 (.sh 3 (typ (0:Int) eI ps)))),(13,(k1 (.n .i64 ((↑ps.length:Int))))),(14,(k1 (.n .i64 (x.2:Int))))]⟩)],[(5,[(1000000,[])]),(7,[(1000000,[])])],[],[]⟩) tab_ok mixed Tryz.func95 rfl Tryz.ntmps95 (rvs:=[.tmp 8]) Tryz.results95 rfl fun hl=>?_
 refine cast (show (let k_1:Prop:=o.kind=o.kind/\o.who=o.who/\o.inn=o.inn/\o.code=o.code/\o.sec=o.sec/\o.fam=o.fam/\o.gen=o.gen;∃ (pre:List Msg×Nat->Prop),∃ (μ:List Msg×Nat->Nat),∃ (x0:List Msg×Nat),(kind=kind/\tx=tx/\q_I ps ps/\k_1/\x0.1.length=n_0/\q_I ps ps/\zi ps.length=zi ps.length/\i_0=zi x0.2)/\pre x0/\(∀ (x:List Msg×Nat),pre x->(decide (zi x.2<zi ps.length)=true->(i_0<=zi x.2/\zi x.2<zi ps.length)/\(x.1.length+n_1)*n_88<=n_140737488355328/\(∃ (y:List Msg×Nat),(kind=kind/\tx=tx/\q_I ps ps/\k_1/\cnRs (appR (typ dMsg eMsg x.1) (raw [[cn_ kind,cn_ (g_Int ps x.2),cn_ i_0,cn_ tx,cn_ o.kind,cn_ o.who,cn_ o.inn,cn_ o.code,cn_ o.sec,cn_ o.fam,cn_ o.gen]]))=t_g y.1/\q_I ps ps/\zi ps.length=zi ps.length/\wr_ ((zi x.2)+i_1)=zi y.2)/\pre y/\μ y<μ x))/\(decide (zi x.2<zi ps.length)=false->q_g x.1 (toldF kind tx o ps))))=_ by kernel_rfl) ?_
 delta i_0 i_1 wr_ g_Int zi t_I q_I n_0 n_140737488355328 n_1 cn_ t_g q_g n_88
 simp only [zza,zzb,true_and,and_true,and_self,ne_eq,cI_app,cWrtO_app,cWrtS_app,cWrtO_1,cItemO_1,opr_ex,zcast,frz_nil,nil_map,Option.getD_none,Option.getD_some]
 refine ⟨fun x=>x.2<=ps.length/\x.1=toldF kind tx o (ps.take x.2),fun x=>ps.length-x.2,[],rfl,⟨by omega,rfl⟩,fun a i hp=>?_⟩
 obtain ⟨h1,h2⟩:=hp
 simp only at h1 h2
 subst h2
 refine ⟨fun hlt=>⟨by omega,hlt,by simp only [toldF,List.length_map,List.length_take];omega,toldF kind tx o (ps.take (i+1)),?_,i+1,wrapN (by omega),⟨by simp only;omega,rfl⟩,by simp only;omega⟩,fun hge=>?_⟩
 ·rw [take_succ (d:=0) (by omega)]
  simp [toldF]
 ·have:i=ps.length:=by omega
  rw [this,List.take_length]
def impl_told_c:Con Tryz.prog:=conP [.lend,.lend,.lend,.lend] fun (b:Int×Int×Opr×List Int) h=>impl_told_ok (b.1) (b.2.1) (b.2.2.1) (b.2.2.2) h
end Go.Proofs.AI
namespace Go.Proofs.AI
open Go.RowKit Go.Proofs
set_option linter.unusedVariables false
set_option linter.unusedSimpArgs false
set_option maxRecDepth 100000
theorem impl_FroState_abort_ok (f:Front) (k:Nat) (hpre:k<f.way.length/\f.way.length<=1000):FunOK Tryz.prog 93 2 [0] [(0,⟨.box,cKFrontO f,[]⟩),(1,kI k)] (·=[(2,⟨.tup [(false,1),(false,1)],[.c (oMsgs (noF f k).2.1),.c (oFOuts (noF f k).2.2)],[]⟩),(0,⟨.box,cKFrontO (noF f k).1,[]⟩)]):=by
 refine fun_to (E:=⟨tab,ctOf [impl_OpPlaces_c,impl_told_c,delF_c],36,[0],[(0,[0,1]),(1,[0,1,6]),(2,[0,6]),(3,[0,4,5,31,34,35])],[],[],[],[]⟩) tab_ok mixed Tryz.func93 rfl Tryz.ntmps93 (rvs:=[.tmp 4,.tmp 5]) Tryz.results93 rfl fun hl=>?_
 refine cast (show ((i_0<=zi k/\zi k<zi f.way.length)/\(zi k).toNat<f.way.length/\∃ (b:List FTx×Nat),(q_j f.way b.1/\zi k=zi b.2/\wr_ ((zi k)+i_1)=(zi b.2)+i_1)/\b.2<b.1.length/\∃ (b_1:Opr),((g_FTx f.way k).op.kind=b_1.kind/\(g_FTx f.way k).op.who=b_1.who/\(g_FTx f.way k).op.inn=b_1.inn/\(g_FTx f.way k).op.code=b_1.code/\(g_FTx f.way k).op.sec=b_1.sec/\(g_FTx f.way k).op.fam=b_1.fam/\(g_FTx f.way k).op.gen=b_1.gen)/\∃ (b_2:y_20),(i_3=b_2.1/\(g_FTx f.way k).tx=b_2.2.1/\(i_0=b_2.2.2.1.kind/\i_0=b_2.2.2.1.who/\i_0=b_2.2.2.1.inn/\i_0=b_2.2.2.1.code/\i_0=b_2.2.2.1.sec/\i_0=b_2.2.2.1.fam/\i_0=b_2.2.2.1.gen)/\cnRs (frozenRs (typ i_0 eI (placesL b_1)))=t_I b_2.2.2.2)/\b_2.2.2.2.length<=n_1000/\(((∀ (k:Nat),True/\True/\True/\True/\True/\True/\True/\True/\True/\True/\True/\True)/\True)/\True)/\(q_g (toldF b_2.1 b_2.2.1 b_2.2.2.1 b_2.2.2.2) (noF f k).2.1/\cnRs (raw [[cn_ (g_FTx f.way k).tx,CV.b false]])=t_k (noF f k).2.2)/\q_f f.disk.notes (noF f k).1.disk.notes/\f.disk.safe=(noF f k).1.disk.safe/\q_j (b.1.eraseIdx b.2) (noF f k).1.way)=_ by kernel_rfl) ?_
 delta i_0 i_1 i_3 wr_ zi t_I n_1000 cn_ t_f q_f t_g q_g g_FTx y_20 t_j q_j t_k
 simp only [zza,zzb,true_and,and_true,and_self,ne_eq,cI_app,cWrtO_app,cWrtS_app,cWrtO_1,cItemO_1,opr_ex,zcast,frz_nil,nil_map,Option.getD_none,Option.getD_some]
 have h3:=places_len3 (f.way.getD k dFTx).op
 exact ⟨by omega,by omega,hpre.1,IntWalk.i64_in _ (by omega),hpre.1,by omega,told_send (.inr rfl),rfl,rfl,rfl,rfl⟩
def impl_FroState_abort_c:Con Tryz.prog:=conP [.ptr,.lend] fun (b:Front×Nat) h=>impl_FroState_abort_ok (b.1) (b.2) h
theorem impl_services_ok (u:Unit):FunOK Tryz.prog 136 0 [] [] (·=[(0,k1 (oI [1,2,3]))]):=by
 refine fun_to (E:=⟨tab,ctOf [],2,[],[(0,[]),(1,[0,1])],[],[],[],[]⟩) tab_ok mixed Tryz.func136 rfl Tryz.ntmps136 (rvs:=[.tmp 0]) Tryz.results136 rfl fun hl=>?_
 refine cast (show (cnRs (typ i_0 (fun (y:Int)=>[cn_ y]) [i_1,i_2,i_3])=t_I [i_1,i_2,i_3])=_ by kernel_rfl) ?_
 delta i_0 i_1 i_2 i_3 t_I cn_
 simp only [zza,zzb,true_and,and_true,and_self,ne_eq,cI_app,cWrtO_app,cWrtS_app,cWrtO_1,cItemO_1,opr_ex,zcast,frz_nil,nil_map,Option.getD_none,Option.getD_some]
 done
def impl_services_c:Con Tryz.prog:=con0 [] fun b:Unit=>impl_services_ok b
end Go.Proofs.AI
namespace Go.Proofs.AI
open Go.RowKit Go.Proofs
set_option linter.unusedVariables false
set_option linter.unusedSimpArgs false
set_option maxRecDepth 100000
theorem CanNot_ok (x:Int) (t:FTx):FunOK Tryz.prog 133 2 [] [(0,kI x),(1,k1 (.rp [.rp (eFTxS t)]))] (·=[(2,kB (!(t.can.any fun y=>x==y)))]):=by
 refine fun_to (E:=⟨tab,ctOf [ContainsInt_c],11,[],[(0,[0,1]),(1,[3])],[],[],[],[]⟩) tab_ok mixed Tryz.func133 rfl Tryz.ntmps133 (rvs:=[.tmp 3]) Tryz.results133 rfl fun hl=>?_
 refine cast (show (∃ (b:List Int×Int),(q_I t.can b.1/\x=b.2)/\(!b.1.any fun (x:Int)=>b.2==x)=!t.can.any fun (y:Int)=>x==y)=_ by kernel_rfl) ?_
 delta t_I q_I
 simp only [zza,zzb,true_and,and_true,and_self,ne_eq,cI_app,cWrtO_app,cWrtS_app,cWrtO_1,cItemO_1,opr_ex,zcast,frz_nil,nil_map,Option.getD_none,Option.getD_some]
 done
def CanNot_c:Con Tryz.prog:=con0 [.lend] fun b:Int×FTx=>CanNot_ok (b.1) (b.2)
theorem IndexNot_ok (xs:List Int) (t:FTx):FunOK Tryz.prog 170 2 [] [(0,k1 (sI xs)),(1,k1 (.fn 133 [.rp [.rp (eFTxS t)]]))] (·=[(2,kI (idxOf (fun x=>!(t.can.any fun y=>x==y)) xs))]):=by
 refine fun_to (E:=⟨tab,ctOf [CanNot_c],19,[],[(0,[0,1]),(1,[0,1,7,8]),(2,[0,1,7,8,9]),(3,[0,1,5,7,8]),(4,[0,1,5,7,8,16]),(5,[4]),(6,[0,1,7,8]),(7,[4])],[(0,⟨Nat,fun x=>[(0,(k1 (.sh 3 (typ (0:Int) eI xs)))),(1,(k1 (.fn 133 ([CV.rp [CV.rp [CV.n .i64 t.tx,CV.n .i64 t.op.kind,CV.n .i64 t.op.who,CV.n .i64 t.op.inn,CV.n .i64 t.op.code,CV.n .i64 t.op.sec,CV.n .i64 t.op.fam,CV.n .i64 t.op.gen,CV.b t.yes,CV.sh (3:Nat) (typ (0:Int) eI t.can),CV.sh (3:Nat) (typ (0:Int) eI t.know)]]])))),(7,(k1 (.n .i64 ((↑xs.length:Int))))),(8,(k1 (.n .i64 (x:Int))))]⟩)],[],[],[]⟩) tab_ok mixed Tryz.func170 rfl Tryz.ntmps170 (rvs:=[.tmp 4]) Tryz.results170 rfl fun hl=>?_
 refine cast (show (∃ (pre:Nat->Prop),∃ (μ:Nat->Nat),∃ (x0:Nat),(q_I xs xs/\cnR [CV.rp [CV.rp [cn_ t.tx,cn_ t.op.kind,cn_ t.op.who,cn_ t.op.inn,cn_ t.op.code,cn_ t.op.sec,cn_ t.op.fam,cn_ t.op.gen,CV.b t.yes,CV.sh n_3 (typ i_0 eI t.can),CV.sh n_3 (typ i_0 eI t.know)]]]=cnR [CV.rp [CV.rp [cn_ t.tx,cn_ t.op.kind,cn_ t.op.who,cn_ t.op.inn,cn_ t.op.code,cn_ t.op.sec,cn_ t.op.fam,cn_ t.op.gen,CV.b t.yes,CV.sh n_3 (typ i_0 eI t.can),CV.sh n_3 (typ i_0 eI t.know)]]]/\zi xs.length=zi xs.length/\i_0=zi x0)/\pre x0/\∀ (x:Nat),pre x->(decide (zi x<zi xs.length)=true->(i_0<=zi x/\zi x<zi xs.length)/\∃ (b:Int×FTx),(g_Int xs x=b.1/\cnR [CV.rp [cn_ t.tx,cn_ t.op.kind,cn_ t.op.who,cn_ t.op.inn,cn_ t.op.code,cn_ t.op.sec,cn_ t.op.fam,cn_ t.op.gen,CV.b t.yes,CV.sh n_3 (typ i_0 eI t.can),CV.sh n_3 (typ i_0 eI t.know)]]=cnR [CV.rp [cn_ b.2.tx,cn_ b.2.op.kind,cn_ b.2.op.who,cn_ b.2.op.inn,cn_ b.2.op.code,cn_ b.2.op.sec,cn_ b.2.op.fam,cn_ b.2.op.gen,CV.b b.2.yes,CV.sh n_3 (typ i_0 eI b.2.can),CV.sh n_3 (typ i_0 eI b.2.know)]])/\((!b.2.can.any fun (y:Int)=>b.1==y)=true->zi x=idxOf (fun (x:Int)=>!t.can.any fun (y:Int)=>x==y) xs)/\((!b.2.can.any fun (y:Int)=>b.1==y)=false->∃ (y:Nat),(q_I xs xs/\cnR [CV.rp [CV.rp [cn_ t.tx,cn_ t.op.kind,cn_ t.op.who,cn_ t.op.inn,cn_ t.op.code,cn_ t.op.sec,cn_ t.op.fam,cn_ t.op.gen,CV.b t.yes,CV.sh n_3 (typ i_0 eI t.can),CV.sh n_3 (typ i_0 eI t.know)]]]=cnR [CV.rp [CV.rp [cn_ t.tx,cn_ t.op.kind,cn_ t.op.who,cn_ t.op.inn,cn_ t.op.code,cn_ t.op.sec,cn_ t.op.fam,cn_ t.op.gen,CV.b t.yes,CV.sh n_3 (typ i_0 eI t.can),CV.sh n_3 (typ i_0 eI t.know)]]]/\zi xs.length=zi xs.length/\wr_ ((zi x)+i_1)=zi y)/\pre y/\μ y<μ x))/\(decide (zi x<zi xs.length)=false->(-1:Int)=idxOf (fun (x:Int)=>!t.can.any fun (y:Int)=>x==y) xs))=_ by kernel_rfl) ?_
 delta i_0 i_1 wr_ g_Int zi t_I q_I n_3 cn_
 have hx:xs.length<=9223372036854775807:=hl.1 _ (List.mem_singleton.2 rfl)
 simp only [zza,zzb,true_and,and_true,and_self,ne_eq,cI_app,cWrtO_app,cWrtS_app,cWrtO_1,cItemO_1,opr_ex,zcast,frz_nil,nil_map,Option.getD_none,Option.getD_some]
 have hp:∀ j,(xs.getD j 0 |> fun x=>!(t.can.any fun y=>x==y))=!(t.can.any fun y=>xs.getD j 0==y):=fun _=>rfl
 refine ⟨fun i=>i<=xs.length/\∀ j,j<i->(fun x=>!(t.can.any fun y=>x==y)) (xs.getD j 0)=false,⟨by simp,fun j hj=>absurd hj (Nat.not_lt_zero _)⟩,fun i=>xs.length-i,fun i hi=>?_⟩
 obtain ⟨h1,h2⟩:=hi
 refine ⟨fun hlt=>⟨by omega,by omega,t,rfl,fun hp=>?_,fun hp=>⟨i+1,wrapN (by omega),⟨by omega,below_succ h2 hp⟩,by simp only;omega⟩⟩,fun hge=>?_⟩
 ·exact (idx_hit (p:=fun x=>!(t.can.any fun y=>x==y)) (d:=0) (by omega) hp h2).symm
 ·exact (idx_miss (p:=fun x=>!(t.can.any fun y=>x==y)) (d:=0) fun j hj=>h2 j (by omega)).symm
def IndexNot_c:Con Tryz.prog:=con0 [.lend,.lend] fun b:List Int×FTx=>IndexNot_ok (b.1) (b.2)
theorem ContainsNot_ok (xs:List Int) (t:FTx):FunOK Tryz.prog 132 2 [] [(0,k1 (sI xs)),(1,k1 (.fn 133 [.rp [.rp (eFTxS t)]]))] (·=[(2,kB (xs.any fun x=>!(t.can.any fun y=>x==y)))]):=by
 refine fun_to (E:=⟨tab,ctOf [IndexVal_c],9,[],[(0,[0,1]),(1,[4])],[],[],[],[(1,[IndexNot_c])]⟩) tab_ok mixed Tryz.func132 rfl Tryz.ntmps132 (rvs:=[.tmp 4]) Tryz.results132 rfl fun hl=>?_
 refine cast (show (∃ (b:List Int×FTx),(q_I xs b.1/\cnR [CV.rp [CV.rp [cn_ t.tx,cn_ t.op.kind,cn_ t.op.who,cn_ t.op.inn,cn_ t.op.code,cn_ t.op.sec,cn_ t.op.fam,cn_ t.op.gen,CV.b t.yes,CV.sh n_3 (typ i_0 eI t.can),CV.sh n_3 (typ i_0 eI t.know)]]]=cnR [CV.rp [CV.rp [cn_ b.2.tx,cn_ b.2.op.kind,cn_ b.2.op.who,cn_ b.2.op.inn,cn_ b.2.op.code,cn_ b.2.op.sec,cn_ b.2.op.fam,cn_ b.2.op.gen,CV.b b.2.yes,CV.sh n_3 (typ i_0 eI b.2.can),CV.sh n_3 (typ i_0 eI b.2.know)]]])/\decide (idxOf (fun (x:Int)=>!b.2.can.any fun (y:Int)=>x==y) b.1≥i_0)=xs.any fun (x:Int)=>!t.can.any fun (y:Int)=>x==y)=_ by kernel_rfl) ?_
 delta i_0 t_I q_I n_3 cn_
 simp only [zza,zzb,true_and,and_true,and_self,ne_eq,cI_app,cWrtO_app,cWrtS_app,cWrtO_1,cItemO_1,opr_ex,zcast,frz_nil,nil_map,Option.getD_none,Option.getD_some]
 exact ⟨t,rfl,idx_ge _ _⟩
def ContainsNot_c:Con Tryz.prog:=con0 [.lend,.lend] fun b:List Int×FTx=>ContainsNot_ok (b.1) (b.2)
theorem addD_eqF {d:Disk} {n:Note} {s:Bool} (hd:diskB d=true) (hn:noteB n=true):addD d n s=(addI d n s,!decide (d.notes.length=120)):=by
 simp only [addD,addI,hd,hn,Bool.and_self,if_true]
 split<;>simp_all
theorem less_any (l s:List Int):(l.any fun x=>!s.any fun y=>x==y)=decide (0<(lessP l s).length):=by
 rw [Bool.eq_iff_iff,decide_eq_true_iff]
 simp only [any_flipI]
 rw [List.any_eq_true,List.length_pos_iff_exists_mem]
 simp [lessP,List.mem_filter]
theorem small2 (k tx:Int):smallN ⟨k,tx,[],[]⟩:=⟨by simp,by simp,fun w hw=>by simp at hw⟩
def addP_c:Con Tryz.prog:={ impl_LogDisk_add_c with mds:=[.part 2,.lend,.lend] }
theorem impl_FroState_can_ok (f:Front) (k:Nat) (p:Int) (hpre:okF f/\k<f.way.length/\1<=p/\p<=3):FunOK Tryz.prog 92 3 [0] [(0,⟨.box,cKFrontO f,[]⟩),(1,kI k),(2,kI p)] (·=[(3,⟨.tup [(false,1),(false,1)],[.c (oMsgs (canF f k p).2.1),.c (oFOuts (canF f k p).2.2)],[]⟩),(0,⟨.box,cKFrontO (canF f k p).1,[]⟩)]):=by
 refine fun_to (E:=⟨tab,ctOf [impl_OpPlaces_c,impl_FroState_abort_c,impl_told_c,impl_put_c,ContainsVal_c,impl_LogDisk_add_c,impl_services_c],62,[0],[(0,[0,1,2,43,44,45,55,60,61]),(1,[0,1,2,8,43,44,45,55,60,61]),(2,[0,1,8,43,44,45,55,60,61]),(3,[0,1,8,30,43,44,45,55,60,61]),(4,[0,6,7,43,44,45,55,60,61]),(5,[0,1,8,40,43,44,45,55,60,61]),(6,[0,6,7,43,44,45,55,60,61]),(7,[0,8,43,44,45]),(8,[0,6,7,43,44,45,55,60,61])],[],[(2,[(1000006,[])])],[(2,⟨List FTx,fun x=>[(0,⟨.box,[.c (.ow 107 (typ dNote eNoteO f.disk.notes)),.c (.n .i64 f.disk.safe),.c (oFTxs (x))],[]⟩),(1,(k1 (.n .i64 ((↑k:Int))))),(8,⟨.box,[SC.p (69:Nat) (0:Nat) (2:Nat) [] (0:Nat) (↑k:Int).toNat (0:Nat)],[]⟩)]⟩)],[(3,[ContainsNot_c]),(5,[addP_c])]⟩) tab_ok mixed Tryz.func92 rfl Tryz.ntmps92 (rvs:=[.tmp 6,.tmp 7]) Tryz.results92 rfl fun hl=>?_
 refine cast (show (let k_1:Prop:=(zi k).toNat<f.way.length;(i_0<=zi k/\zi k<zi f.way.length)/\(∃ (post:List FTx->Prop),(k_1/\k_1/\(∃ (b:List Int×Int),(q_I (g_FTx f.way k).can b.1/\p=b.2)/\(ris3 b.1/\i_1<=b.2/\b.2<=i_3)/\k_1/\(∃ (x:List FTx),((q_f f.disk.notes f.disk.notes/\f.disk.safe=f.disk.safe/\cnRs (setF (setF (typ dFTx eFTxO f.way) (zi k).toNat n_9 CV.any) (zi k).toNat n_9 (CV.ow n_3 (typ i_0 eI (putP b.1 b.2))))=t_j x)/\zi k=zi k/\n_69=n_69/\n_0=n_0/\n_2=n_2/\wayEq [] []/\(zi k).toNat=(zi k).toNat/\n_0=n_0/\true=true)/\post x)))/\(∀ (x:List FTx),post x->(zi k).toNat<x.length/\(∃ (b:Opr),((g_FTx x k).op.kind=b.kind/\(g_FTx x k).op.who=b.who/\(g_FTx x k).op.inn=b.inn/\(g_FTx x k).op.code=b.code/\(g_FTx x k).op.sec=b.sec/\(g_FTx x k).op.fam=b.fam/\(g_FTx x k).op.gen=b.gen)/\((True/\(zi k).toNat<x.length)/\True)/\(∃ (b_1:List Int×FTx),(cnRs (frozenRs (typ i_0 eI (placesL b)))=t_I b_1.1/\cnR [CV.rp [CV.rp [cn_ (g_FTx x k).tx,cn_ (g_FTx x k).op.kind,cn_ (g_FTx x k).op.who,cn_ (g_FTx x k).op.inn,cn_ (g_FTx x k).op.code,cn_ (g_FTx x k).op.sec,cn_ (g_FTx x k).op.fam,cn_ (g_FTx x k).op.gen,CV.b (g_FTx x k).yes,CV.sh n_3 (frozenRs (typ i_0 eI (g_FTx x k).can)),CV.sh n_3 (frozenRs (typ i_0 eI (g_FTx x k).know))]]]=cnR [CV.rp [CV.rp [cn_ b_1.2.tx,cn_ b_1.2.op.kind,cn_ b_1.2.op.who,cn_ b_1.2.op.inn,cn_ b_1.2.op.code,cn_ b_1.2.op.sec,cn_ b_1.2.op.fam,cn_ b_1.2.op.gen,CV.b b_1.2.yes,CV.sh n_3 (typ i_0 eI b_1.2.can),CV.sh n_3 (typ i_0 eI b_1.2.know)]]])/\((b_1.1.any fun (x:Int)=>!b_1.2.can.any fun (y:Int)=>x==y)=true->((canF f k p).2.1.length=n_0/\(canF f k p).2.2.length=n_0)/\q_f f.disk.notes (canF f k p).1.disk.notes/\f.disk.safe=(canF f k p).1.disk.safe/\q_j x (canF f k p).1.way)/\((b_1.1.any fun (x:Int)=>!b_1.2.can.any fun (y:Int)=>x==y)=false->(zi k).toNat<x.length/\(∃ (b:y_18),((q_f f.disk.notes b.1.notes/\f.disk.safe=b.1.safe)/\(i_2=b.2.1.kind/\(g_FTx x k).tx=b.2.1.tx/\cnRs (frozenRs nilR)=t_S b.2.1.locks/\cnRs (frozenRs nilR)=t_c b.2.1.writes)/\true=b.2.2)/\(smallN b.2.1/\b.1.notes.length<=n_1000)/\((True/\True)/\((∀ (k:Nat),True/\True/\(∀ (k:Nat),True/\True)/\(∀ (k:Nat),True/\True/\(∀ (k:Nat),True/\True)/\True)/\True)/\True/\True)/\True)/\((!!decide (b.1.notes.length=n_120))=true->∃ (b_2:Front×Nat),((q_f (addI b.1 b.2.1 b.2.2).notes b_2.1.disk.notes/\(addI b.1 b.2.1 b.2.2).safe=b_2.1.disk.safe/\q_j x b_2.1.way)/\zi k=zi b_2.2)/\(b_2.2<b_2.1.way.length/\b_2.1.way.length<=n_1000)/\(q_g (noF b_2.1 b_2.2).2.1 (canF f k p).2.1/\q_k (noF b_2.1 b_2.2).2.2 (canF f k p).2.2)/\q_f (noF b_2.1 b_2.2).1.disk.notes (canF f k p).1.disk.notes/\(noF b_2.1 b_2.2).1.disk.safe=(canF f k p).1.disk.safe/\q_j (noF b_2.1 b_2.2).1.way (canF f k p).1.way)/\((!!decide (b.1.notes.length=n_120))=false->(zi k).toNat<x.length/\(zi k).toNat<x.length/\(∃ (b_2:Unit),True/\(∃ (b_3:y_20),(i_2=b_3.1/\(g_FTx x k).tx=b_3.2.1/\(i_0=b_3.2.2.1.kind/\i_0=b_3.2.2.1.who/\i_0=b_3.2.2.1.inn/\i_0=b_3.2.2.1.code/\i_0=b_3.2.2.1.sec/\i_0=b_3.2.2.1.fam/\i_0=b_3.2.2.1.gen)/\cnRs (frozenRs (typ i_0 eI [i_1,i_2,i_3]))=t_I b_3.2.2.2)/\b_3.2.2.2.length<=n_1000/\(((∀ (k:Nat),True/\True/\True/\True/\True/\True/\True/\True/\True/\True/\True/\True)/\True)/\True)/\(zi k).toNat<x.length/\(q_g (toldF b_3.1 b_3.2.1 b_3.2.2.1 b_3.2.2.2) (canF f k p).2.1/\cnRs (raw [[cn_ (g_FTx x k).tx,CV.b true]])=t_k (canF f k p).2.2)/\q_f (addI b.1 b.2.1 b.2.2).notes (canF f k p).1.disk.notes/\(addI b.1 b.2.1 b.2.2).safe=(canF f k p).1.disk.safe/\cnRs (setF (typ dFTx eFTxO x) (zi k).toNat n_8 (CV.b true))=t_j (canF f k p).1.way))))))))))=_ by kernel_rfl) ?_
 delta i_0 i_1 i_2 i_3 zi t_I q_I n_0 n_8 n_3 t_c n_1000 cn_ t_S n_2 t_f q_f n_9 t_g q_g y_18 g_FTx y_20 t_j q_j n_120 t_k q_k n_69
 simp only [zza,zzb,true_and,and_true,and_self,ne_eq,cI_app,cWrtO_app,cWrtS_app,cWrtO_1,cItemO_1,opr_ex,zcast,frz_nil,nil_map,Option.getD_none,Option.getD_some]
 obtain ⟨hf,hk,hp1,hp2⟩:=hpre
 have hT:=hf.at_ hk
 have hn:=note_yes (k:=2) (.inl rfl) hT.tx
 have hadd:=addD_eqF (s:=true) hf.fd hn
 have hl0:=(diskB_small hf.fd).2.1
 have hw:=hf.wl
 refine ⟨by omega,by omega,hk,hk,hT.can,hp1,hp2,hk,fun z=>z=f.way.set k (canT (f.way.getD k dFTx) p),⟨_,by rw [setF_setF,cSetTO _ _ _ _ (canT (f.way.getD k dFTx) p) (by simp [canT])],rfl⟩,fun z hz=>?_⟩
 subst hz
 have hg:=getD_set_eq f.way hk (canT (f.way.getD k dFTx) p) dFTx
 have hy:=cSetTO (f.way.set k (canT (f.way.getD k dFTx) p)) k 8 (.b true) (yesT (canT (f.way.getD k dFTx) p)) (by rw [hg];simp [yesT])
 rw [hg,List.length_set,hy,List.set_set]
 simp only [canF,hadd]
 generalize f.way.getD k dFTx=T at *
 refine ⟨hk,hk,canT T p,rfl,fun e1=>?_,fun e1=>⟨hk,small2 _ _,by omega,fun e2=>?_,fun e2=>?_⟩⟩
 ·rw [less_any] at e1
  have h:0<(lessP (placesL T.op) (putP T.can p)).length:=of_decide_eq_true e1
  rw [if_pos h];exact ⟨rfl,rfl,rfl,rfl,rfl⟩
 ·rw [less_any] at e1
  have h:¬ 0<(lessP (placesL T.op) (putP T.can p)).length:=of_decide_eq_false e1
  have hl:f.disk.notes.length=120:=by simpa using e2
  have ha:∀ n,addI f.disk n true=f.disk:=fun n=>by simp [addI,hl]
  rw [if_neg h,if_neg (by rw [hl];decide),ha];exact ⟨hk,by omega,rfl,rfl,rfl,rfl,rfl⟩
 ·rw [less_any] at e1
  have h:¬ 0<(lessP (placesL T.op) (putP T.can p)).length:=of_decide_eq_false e1
  have hl:¬ f.disk.notes.length=120:=by simpa using e2
  rw [if_neg h,if_pos (by rw [decide_eq_false hl]<;>rfl)];exact ⟨hk,hk,by simp,hk,told_send (.inr rfl),rfl,rfl,rfl,(),rfl⟩
def impl_FroState_can_c:Con Tryz.prog:=conP [.ptr,.lend,.lend] fun (b:Front×Nat×Int) h=>impl_FroState_can_ok (b.1) (b.2.1) (b.2.2) h
theorem impl_FroState_know_ok (f:Front) (k:Nat) (p:Int) (hpre:okF f/\k<f.way.length/\1<=p/\p<=3):FunOK Tryz.prog 94 3 [0] [(0,⟨.box,cKFrontO f,[]⟩),(1,kI k),(2,kI p)] (·=[(3,⟨.tup [],[],[]⟩),(0,⟨.box,cKFrontO (knowF f k p),[]⟩)]):=by
 refine fun_to (E:=⟨tab,ctOf [impl_put_c,impl_LogDisk_add_c,impl_services_c,delF_c],52,[0],[(0,[0,1,2,6,7,8,9,10,11,12]),(1,[0,1,6,7,8,9,10,11,12]),(2,[0,1,40]),(3,[0])],[],[(1,[(1000006,[])]),(2,[(1000004,[])])],[(1,⟨List FTx,fun x=>[(0,⟨.box,[.c (.ow 107 (typ dNote eNoteO f.disk.notes)),.c (.n .i64 f.disk.safe),.c (oFTxs (x))],[]⟩),(1,(k1 (.n .i64 ((↑k:Int))))),(6,⟨.one,[SC.p (69:Nat) (0:Nat) (2:Nat) [] (0:Nat) (↑k:Int).toNat (0:Nat)],[]⟩)]⟩)],[(2,[addP_c])]⟩) tab_ok mixed Tryz.func94 rfl Tryz.ntmps94 (rvs:=[]) Tryz.results94 rfl fun hl=>?_
 refine cast (show (let k_1:Prop:=(zi k).toNat<f.way.length;(i_0<=zi k/\zi k<zi f.way.length)/\(∃ (post:List FTx->Prop),(k_1/\k_1/\(∃ (b:List Int×Int),(q_I (g_FTx f.way k).know b.1/\p=b.2)/\(ris3 b.1/\i_1<=b.2/\b.2<=i_3)/\k_1/\(∃ (x:List FTx),((q_f f.disk.notes f.disk.notes/\f.disk.safe=f.disk.safe/\cnRs (setF (setF (typ dFTx eFTxO f.way) (zi k).toNat n_10 CV.any) (zi k).toNat n_10 (CV.ow n_3 (typ i_0 eI (putP b.1 b.2))))=t_j x)/\zi k=zi k/\n_69=n_69/\n_0=n_0/\n_2=n_2/\wayEq [] []/\(zi k).toNat=(zi k).toNat/\n_0=n_0/\true=true)/\post x)))/\(∀ (x:List FTx),post x->(zi k).toNat<x.length/\(zi k).toNat<x.length/\(∃ (b:Unit),True/\(((zi (g_FTx x k).know.length)==zi n_3)=true->(zi k).toNat<x.length/\(∃ (b:y_18),let k_3:Prop:=(addI b.1 b.2.1 b.2.2).safe=(knowF f k p).disk.safe;let k_2:Prop:=q_f (addI b.1 b.2.1 b.2.2).notes (knowF f k p).disk.notes;((q_f f.disk.notes b.1.notes/\f.disk.safe=b.1.safe)/\(i_4=b.2.1.kind/\(g_FTx x k).tx=b.2.1.tx/\cnRs (frozenRs nilR)=t_S b.2.1.locks/\cnRs (frozenRs nilR)=t_c b.2.1.writes)/\false=b.2.2)/\(smallN b.2.1/\b.1.notes.length<=n_1000)/\((True/\True)/\((∀ (k:Nat),True/\True/\(∀ (k:Nat),True/\True)/\(∀ (k:Nat),True/\True/\(∀ (k:Nat),True/\True)/\True)/\True)/\True/\True)/\True)/\((!decide (b.1.notes.length=n_120))=true->∃ (b_1:List FTx×Nat),(q_j x b_1.1/\zi k=zi b_1.2/\wr_ ((zi k)+i_1)=(zi b_1.2)+i_1)/\b_1.2<b_1.1.length/\True/\k_2/\k_3/\q_j (b_1.1.eraseIdx b_1.2) (knowF f k p).way)/\((!decide (b.1.notes.length=n_120))=false->True/\k_2/\k_3/\q_j x (knowF f k p).way)))/\(((zi (g_FTx x k).know.length)==zi n_3)=false->True/\q_f f.disk.notes (knowF f k p).disk.notes/\f.disk.safe=(knowF f k p).disk.safe/\q_j x (knowF f k p).way)))))=_ by kernel_rfl) ?_
 delta i_0 i_1 i_3 i_4 wr_ zi t_I q_I n_0 n_3 t_c n_1000 t_S n_10 n_2 t_f q_f y_18 g_FTx t_j q_j n_120 n_69
 simp only [zza,zzb,true_and,and_true,and_self,ne_eq,cI_app,cWrtO_app,cWrtS_app,cWrtO_1,cItemO_1,opr_ex,zcast,frz_nil,nil_map,Option.getD_none,Option.getD_some]
 obtain ⟨hf,hk,hp1,hp2⟩:=hpre
 have hT:=hf.at_ hk
 have hn:=note_yes (k:=4) (.inr (.inr rfl)) hT.tx
 have hadd:=addD_eqF (s:=false) hf.fd hn
 have hl0:=(diskB_small hf.fd).2.1
 have hw:=hf.wl
 refine ⟨by omega,by omega,hk,hk,hT.know,hp1,hp2,hk,fun z=>z=f.way.set k (knowT (f.way.getD k dFTx) p),⟨_,by rw [setF_setF,cSetTO _ _ _ _ (knowT (f.way.getD k dFTx) p) (by simp [knowT])],rfl⟩,fun z hz=>?_⟩
 subst hz
 have hg:=getD_set_eq f.way hk (knowT (f.way.getD k dFTx) p) dFTx
 rw [hg,List.length_set,erase_set]
 simp only [knowF,hadd]
 have hr:=ris3_len (putP_ris hT.know ⟨hp1,hp2⟩)
 generalize f.way.getD k dFTx=T at *
 refine ⟨hk,hk,fun e1=>⟨hk,small2 _ _,by omega,fun e2=>?_,fun e2=>?_⟩,(),fun e1=>?_⟩
 ·have e1:(putP T.know p).length=3:=e1
  have hl:¬ f.disk.notes.length=120:=by simpa using e2
  rw [if_neg (by omega),if_pos (by rw [decide_eq_false hl]<;>rfl)];exact ⟨IntWalk.i64_in _ (by omega),hk,rfl,rfl,rfl⟩
 ·have e1:(putP T.know p).length=3:=e1
  have hl:f.disk.notes.length=120:=by simpa using e2
  have ha:∀ n,addI f.disk n false=f.disk:=fun n=>by simp [addI,hl]
  rw [if_neg (by omega),if_neg (by rw [decide_eq_true hl];decide),ha];exact ⟨rfl,rfl,rfl⟩
 ·have e1:¬ (putP T.know p).length=3:=e1
  rw [if_pos (by omega)];exact ⟨rfl,rfl,rfl⟩
def impl_FroState_know_c:Con Tryz.prog:=conP [.ptr,.lend,.lend] fun (b:Front×Nat×Int) h=>impl_FroState_know_ok (b.1) (b.2.1) (b.2.2) h
end Go.Proofs.AI
namespace Go.Proofs.AI
open Go.RowKit Go.Proofs
set_option linter.unusedVariables false
set_option linter.unusedSimpArgs false
set_option maxRecDepth 100000
theorem impl_FroState_hear_ok (f:Front) (m:Msg) (hpre:okF f/\(m.frm=0∨1<=m.frm/\m.frm<=3)/\(4<=m.kind->1<=m.frm/\m.frm<=3)):FunOK Tryz.prog 47 2 [0] [(0,⟨.box,cKFrontO f,[]⟩),(1,kMsg m)] (·=[(2,⟨.tup [(false,1),(false,1)],[.c (oMsgs (hearF f m).2.1),.c (oFOuts (hearF f m).2.2)],[]⟩),(0,⟨.box,cKFrontO (hearF f m).1,[]⟩)]):=by
 refine fun_to (E:=⟨tab,ctOf [impl_of_c,impl_FroState_find_c,impl_FroState_can_c,impl_FroState_abort_c,impl_FroState_know_c,impl_told_c],103,[0],[(0,[0,3,36,37,38,48,49,50,92,102]),(1,[0,3,6,36,37,38,48,49,50,92,102]),(2,[0,3,6,7,36,37,38,48,49,50,92,102]),(3,[0,3,6,7,25,36,37,38,48,49,50,92,102]),(4,[0,4,5,36,37,38,48,49,50,92,102]),(5,[0,3,6,7,36,37,38,39,48,49,50,92,102]),(6,[0,4,5,36,37,38,48,49,50,92,102]),(7,[0,3,6,36,37,38,48,49,50,51,92,102]),(8,[0,36,37,38,48,49,50,92,102]),(9,[0,3,6,36,37,38,48,49,50,68,92,102]),(10,[0,3,6,36,37,38,48,49,50,77,92,102]),(11,[0,4,5,36,37,38,48,49,50,92,102]),(12,[0,3,36,37,38,48,49,50,92,93,102]),(13,[0,4,5,36,37,38,48,49,50,92,102]),(14,[0,4,5,36,37,38,48,49,50,92,102])],[],[],[(2,⟨Bool,fun x=>[(0,⟨.box,cKFrontO f,[]⟩),(3,⟨.box,cKMsg m,[]⟩),(6,kI (atF f.way m.tx)),(7,k1 (.b x))]⟩),(3,⟨Bool×Bool,fun x=>[(0,⟨.box,cKFrontO f,[]⟩),(3,⟨.box,cKMsg m,[]⟩),(6,kI (atF f.way m.tx)),(7,k1 (.b x.1)),(25,k1 (.b x.2))]⟩),(5,⟨Bool×Bool,fun x=>[(0,⟨.box,cKFrontO f,[]⟩),(3,⟨.box,cKMsg m,[]⟩),(6,kI (atF f.way m.tx)),(7,k1 (.b x.1)),(39,k1 (.b x.2))]⟩),(7,⟨Bool,fun x=>[(0,⟨.box,cKFrontO f,[]⟩),(3,⟨.box,cKMsg m,[]⟩),(6,kI (atF f.way m.tx)),(51,k1 (.b x))]⟩),(9,⟨Bool,fun x=>[(0,⟨.box,cKFrontO f,[]⟩),(3,⟨.box,cKMsg m,[]⟩),(6,kI (atF f.way m.tx)),(68,k1 (.b x))]⟩)],[]⟩) tab_ok mixed Tryz.func47 rfl Tryz.ntmps47 (rvs:=[.tmp 4,.tmp 5]) Tryz.results47 rfl fun hl=>?_
 refine cast (show (let k_8:Prop:=(hearF f m).2.2.length=n_0;let k_7:Prop:=atF f.way m.tx=atF f.way m.tx;let k_6:Prop:=(hearF f m).2.1.length=n_0/\k_8;let k_5:Prop:=q_f f.disk.notes f.disk.notes/\f.disk.safe=f.disk.safe/\q_j f.way f.way;let k_4:Prop:=q_f f.disk.notes (hearF f m).1.disk.notes/\f.disk.safe=(hearF f m).1.disk.safe/\q_j f.way (hearF f m).1.way;let k_3:Prop:=((∀ (k:Nat),True/\True/\True/\True/\True/\True/\True/\True/\True/\True/\True/\True)/\True)/\True;let k_2:Prop:=k_6/\k_4;let k_1:Prop:=m.kind=m.kind/\m.to=m.to/\m.frm=m.frm/\m.tx=m.tx/\m.op.kind=m.op.kind/\m.op.who=m.op.who/\m.op.inn=m.op.inn/\m.op.code=m.op.code/\m.op.sec=m.op.sec/\m.op.fam=m.op.fam/\m.op.gen=m.op.gen;∃ (b:Front×Int),let k_9:Prop:=q_f b.1.disk.notes f.disk.notes/\b.1.disk.safe=f.disk.safe/\q_j b.1.way f.way;((q_f f.disk.notes b.1.disk.notes/\f.disk.safe=b.1.disk.safe/\q_j f.way b.1.way)/\m.tx=b.2)/\(∃ (post:Bool->Prop),((decide (atF b.1.way b.2≥i_0)=true->(i_0<=atF b.1.way b.2/\atF b.1.way b.2<zi b.1.way.length)/\(atF b.1.way b.2).toNat<b.1.way.length/\(∃ (x:Bool),(k_9/\k_1/\atF b.1.way b.2=atF f.way m.tx/\(!(b.1.way.getD (atF b.1.way b.2).toNat dFTx).yes)=x)/\post x))/\(decide (atF b.1.way b.2≥i_0)=false->∃ (x:Bool),(k_9/\k_1/\atF b.1.way b.2=atF f.way m.tx/\false=x)/\post x))/\(∀ (x:Bool),post x->∃ (post:Bool×Bool->Prop),(((m.kind==i_4)=true->∃ (x_1:Bool×Bool),(k_5/\k_1/\k_7/\x=x_1.1/\x=x_1.2)/\post x_1)/\((m.kind==i_4)=false->∃ (x_1:Bool×Bool),(k_5/\k_1/\k_7/\x=x_1.1/\false=x_1.2)/\post x_1))/\(∀ (x:Bool×Bool),post x->(x.2=true->∃ (b:Front×Nat×Int),((q_f f.disk.notes b.1.disk.notes/\f.disk.safe=b.1.disk.safe/\q_j f.way b.1.way)/\atF f.way m.tx=zi b.2.1/\m.frm=b.2.2)/\(okF b.1/\b.2.1<b.1.way.length/\i_1<=b.2.2/\b.2.2<=i_3)/\(q_g (canF b.1 b.2.1 b.2.2).2.1 (hearF f m).2.1/\q_k (canF b.1 b.2.1 b.2.2).2.2 (hearF f m).2.2)/\q_f (canF b.1 b.2.1 b.2.2).1.disk.notes (hearF f m).1.disk.notes/\(canF b.1 b.2.1 b.2.2).1.disk.safe=(hearF f m).1.disk.safe/\q_j (canF b.1 b.2.1 b.2.2).1.way (hearF f m).1.way)/\(x.2=false->∃ (post:Bool×Bool->Prop),(((m.kind==i_5)=true->∃ (x_1:Bool×Bool),(k_5/\k_1/\k_7/\x.1=x_1.1/\x.1=x_1.2)/\post x_1)/\((m.kind==i_5)=false->∃ (x_1:Bool×Bool),(k_5/\k_1/\k_7/\x.1=x_1.1/\false=x_1.2)/\post x_1))/\(∀ (x:Bool×Bool),post x->(x.2=true->∃ (b:Front×Nat),((q_f f.disk.notes b.1.disk.notes/\f.disk.safe=b.1.disk.safe/\q_j f.way b.1.way)/\atF f.way m.tx=zi b.2)/\(b.2<b.1.way.length/\b.1.way.length<=n_1000)/\(q_g (noF b.1 b.2).2.1 (hearF f m).2.1/\q_k (noF b.1 b.2).2.2 (hearF f m).2.2)/\q_f (noF b.1 b.2).1.disk.notes (hearF f m).1.disk.notes/\(noF b.1 b.2).1.disk.safe=(hearF f m).1.disk.safe/\q_j (noF b.1 b.2).1.way (hearF f m).1.way)/\(x.2=false->∃ (post:Bool->Prop),let k_10:Prop:=∃ (x:Bool),(k_5/\k_1/\k_7/\false=x)/\post x;(((m.kind==i_6)=true->(decide (atF f.way m.tx≥i_0)=true->∃ (x_1:Bool),(k_5/\k_1/\k_7/\(!x.1)=x_1)/\post x_1)/\(decide (atF f.way m.tx≥i_0)=false->k_10))/\((m.kind==i_6)=false->k_10))/\(∀ (x:Bool),post x->(x=true->∃ (b:Front×Nat×Int),((q_f f.disk.notes b.1.disk.notes/\f.disk.safe=b.1.disk.safe/\q_j f.way b.1.way)/\atF f.way m.tx=zi b.2.1/\m.frm=b.2.2)/\(okF b.1/\b.2.1<b.1.way.length/\i_1<=b.2.2/\b.2.2<=i_3)/\k_6/\q_f (knowF b.1 b.2.1 b.2.2).disk.notes (hearF f m).1.disk.notes/\(knowF b.1 b.2.1 b.2.2).disk.safe=(hearF f m).1.disk.safe/\q_j (knowF b.1 b.2.1 b.2.2).way (hearF f m).1.way)/\(x=false->∃ (post:Bool->Prop),(((m.kind==i_4)=false->∃ (x:Bool),(k_5/\k_1/\k_7/\(m.kind==i_7)=x)/\post x)/\((m.kind==i_4)=true->∃ (x:Bool),(k_5/\k_1/\k_7/\true=x)/\post x))/\(∀ (x:Bool),post x->(x=true->∃ (b:Disk×Int),((cnRs (frozenRs (typ dNote eNoteO f.disk.notes))=t_e b.1.notes/\f.disk.safe=b.1.safe)/\m.tx=b.2)/\((ofN b.1.notes b.2==i_2)=true->∃ (b:y_20),(i_2=b.1/\m.tx=b.2.1/\(i_0=b.2.2.1.kind/\i_0=b.2.2.1.who/\i_0=b.2.2.1.inn/\i_0=b.2.2.1.code/\i_0=b.2.2.1.sec/\i_0=b.2.2.1.fam/\i_0=b.2.2.1.gen)/\cnRs (frozenRs (typ i_0 (fun (y:Int)=>[cn_ y]) [m.frm]))=t_I b.2.2.2)/\b.2.2.2.length<=n_1000/\k_3/\(q_g (toldF b.1 b.2.1 b.2.2.1 b.2.2.2) (hearF f m).2.1/\k_8)/\k_4)/\((ofN b.1.notes b.2==i_2)=false->(decide (atF f.way m.tx<i_0)=true->∃ (b:y_20),(i_3=b.1/\m.tx=b.2.1/\(i_0=b.2.2.1.kind/\i_0=b.2.2.1.who/\i_0=b.2.2.1.inn/\i_0=b.2.2.1.code/\i_0=b.2.2.1.sec/\i_0=b.2.2.1.fam/\i_0=b.2.2.1.gen)/\cnRs (frozenRs (typ i_0 (fun (y:Int)=>[cn_ y]) [m.frm]))=t_I b.2.2.2)/\b.2.2.2.length<=n_1000/\k_3/\(q_g (toldF b.1 b.2.1 b.2.2.1 b.2.2.2) (hearF f m).2.1/\k_8)/\k_4)/\(decide (atF f.way m.tx<i_0)=false->k_2)))/\(x=false->k_2)))))))))))=_ by kernel_rfl) ?_
 delta i_0 i_1 i_5 i_2 i_3 i_4 zi t_I n_0 n_1000 cn_ i_7 i_6 t_e t_f q_f t_g q_g y_20 t_j q_j t_k q_k
 simp only [zza,zzb,true_and,and_true,and_self,ne_eq,cI_app,cWrtO_app,cWrtS_app,cWrtO_1,cItemO_1,opr_ex,zcast,frz_nil,nil_map,Option.getD_none,Option.getD_some]
 obtain ⟨hf,_,hm⟩:=hpre
 have hat:=fun h=>atF_lt (w:=f.way) (tx:=m.tx) h
 have hw:=hf.wl
 simp only [hearF,whatF]
 generalize hA:atF f.way m.tx=A at *
 refine ⟨fun z=>(z=true↔(0<=A/\yesAt f A=false)),fun h1=>⟨h1,by have:=(hat h1).1;omega,(hat h1).1,?_⟩,fun h1=>by simp only [Bool.false_eq_true,false_iff];exact fun h=>h1 h.1,fun z hz=>?_⟩
 ·show (!yesAt f A)=true↔_
  rw [Bool.not_eq_true'];exact ⟨fun h=>⟨h1,h⟩,fun h=>h.2⟩
 refine ⟨fun y=>y.1=z/\(y.2=true↔(m.kind=4/\z=true)),fun h=>⟨rfl,by simp [h]⟩,fun h=>⟨rfl,by simp [h]⟩,fun y b hy=>?_⟩
 simp only at hy
 obtain ⟨rfl,hb⟩:=hy
 refine ⟨fun h=>?_,fun h=>?_⟩
 ·obtain ⟨k4,hz1⟩:=hb.1 h
  obtain ⟨a1,a2⟩:=hz.1 hz1
  have hl:=(hat a1).1
  have hp:=hm (by omega)
  rw [if_neg (fun hc=>by omega),if_pos ⟨k4,a1,a2⟩]
  exact ⟨A.toNat,by omega,hf,hl,hp.1,hp.2,rfl,rfl,rfl,rfl,rfl⟩
 have c4:¬ (m.kind=4/\0<=A/\yesAt f A=false):=fun hc=>by rw [hb.2 ⟨hc.1,hz.2 hc.2⟩] at h;cases h
 refine ⟨fun x=>x.1=y/\(x.2=true↔(m.kind=5/\y=true)),fun h=>⟨rfl,by simp [h]⟩,fun h=>⟨rfl,by simp [h]⟩,fun x d hx=>?_⟩
 simp only at hx
 obtain ⟨rfl,hd⟩:=hx
 refine ⟨fun h=>?_,fun h=>?_⟩
 ·obtain ⟨k5,hz1⟩:=hd.1 h
  obtain ⟨a1,a2⟩:=hz.1 hz1
  have hl:=(hat a1).1
  rw [if_neg (fun hc=>by omega),if_neg c4,if_pos ⟨k5,a1,a2⟩]
  exact ⟨A.toNat,by omega,hl,by omega,rfl,rfl,rfl,rfl,rfl⟩
 have c5:¬ (m.kind=5/\0<=A/\yesAt f A=false):=fun hc=>by rw [hd.2 ⟨hc.1,hz.2 hc.2⟩] at h;cases h
 refine ⟨fun q=>(q=true↔(m.kind=6/\0<=A/\yesAt f A=true)),fun k6=>⟨fun h1=>?_,fun h1=>by simp only [Bool.false_eq_true,false_iff];exact fun h=>h1 h.2.1⟩,fun k6=>by simp only [Bool.false_eq_true,false_iff];exact fun h=>k6 h.1,fun q hq=>?_⟩
 ·show (!x)=true↔_
  rw [Bool.not_eq_true']
  refine ⟨fun h=>⟨k6,h1,?_⟩,fun h=>?_⟩
  ·rcases Bool.eq_false_or_eq_true (yesAt f A) with hy | hy
   ·exact hy
   ·rw [hz.2 ⟨h1,hy⟩] at h;cases h
  ·rcases Bool.eq_false_or_eq_true x with hx | hx
   ·have:=(hz.1 hx).2;rw [h.2.2] at this;cases this
   ·exact hx
 refine ⟨fun h=>?_,fun h=>?_⟩
 ·have hc:=hq.1 h
  have hl:=(hat hc.2.1).1
  have hp:=hm (by omega)
  rw [if_pos hc]
  exact ⟨A.toNat,by omega,hf,hl,hp.1,hp.2,rfl,rfl,rfl,rfl,rfl⟩
 have c6:¬ (m.kind=6/\0<=A/\yesAt f A=true):=fun hc=>by rw [hq.2 hc] at h;cases h
 rw [if_neg c6,if_neg c4,if_neg c5]
 refine ⟨fun u=>(u=true↔(m.kind=4∨m.kind=7)),fun h1=>by simp [h1],fun h1=>by simp [h1],fun u hu=>⟨fun h2=>?_,fun h2=>?_⟩⟩
 ·rw [if_pos (hu.1 h2)]
  refine ⟨fun e=>?_,fun e=>⟨fun e2=>?_,fun e2=>?_⟩⟩
  ·simp only [if_pos e];exact ⟨by simp,told_send (.inr rfl),rfl,trivial,trivial,trivial⟩
  ·simp only [if_neg e,if_neg (show ¬ 0<=A by omega)];exact ⟨by simp,told_send (.inr rfl),rfl,trivial,trivial,trivial⟩
  ·simp only [if_neg e,if_pos (show 0<=A by omega)];exact ⟨rfl,rfl,trivial,trivial,trivial⟩
 ·rw [if_neg (fun h3=>by rw [hu.2 h3] at h2;cases h2)];exact ⟨rfl,rfl,rfl,rfl,rfl⟩
def impl_FroState_hear_c:Con Tryz.prog:=conP [.ptr,.lend] fun (b:Front×Msg) h=>impl_FroState_hear_ok (b.1) (b.2) h
theorem msg_frm {m:Msg} (h:msgB m=true):(m.frm=0∨1<=m.frm/\m.frm<=3)/\(4<=m.kind->1<=m.frm/\m.frm<=3):=by
 simp only [msgB,Bool.and_eq_true] at h
 obtain ⟨_,h⟩:=h
 split at h
 ·rename_i k;simp only [Bool.and_eq_true,beq_iff_eq] at h;exact ⟨.inl h.1.1,fun _=>by omega⟩
 ·simp only [Bool.and_eq_true] at h
  obtain ⟨_,h⟩:=h
  split at h
  ·simp only [Bool.and_eq_true,beq_iff_eq] at h;exact ⟨.inl h.1,fun _=>by omega⟩
  ·simp [inR] at h;exact ⟨.inr h.2,fun _=>h.2⟩
def hearB (f:Front) (m:Msg):Front×List Msg×List FOut:=if (froB f&&msgB m&&decide (m.to=0))=true then hearF f m else (⟨⟨[],0⟩,[]⟩,[],[])
theorem impl_FroHear_ok (f:Front) (m:Msg):FunOK Tryz.prog 13 2 [] [(0,kFrontS f),(1,kMsg m)] (·=[(2,⟨.tup [(true,3),(false,1),(false,1)],[.c (oNotes (hearB f m).1.disk.notes),.c (.n .i64 (hearB f m).1.disk.safe),.c (oFTxs (hearB f m).1.way),.c (oMsgs (hearB f m).2.1),.c (oFOuts (hearB f m).2.2)],[]⟩)]):=by
 refine fun_to (E:=⟨tab,ctOf [impl_FroOk_c,impl_MsgOk_c,impl_FroState_copied_c,impl_FroState_hear_c],34,[],[(0,[2,3,4,7,8,9,23,26,28,29,30,31,32,33]),(1,[2,3,4,7,8,9,22,23,26,28,29,30,31,32,33]),(2,[4,5,6,7,8,9,23,26,28,29,30,31,32,33]),(3,[3,4,7,23,31]),(4,[4,7,8,9,23,26,28,29,30,31]),(5,[4,5,6,7,8,9,23,26,28,29,30,31,32,33])],[],[(5,[(1000001,[]),(1000002,[])])],[],[]⟩) tab_ok mixed Tryz.func13 rfl Tryz.ntmps13 (rvs:=[.cell 4 38,.tmp 5,.tmp 6]) Tryz.results13 rfl fun hl=>?_
 refine cast (show (let k_1:Prop:=cnRs nilR=t_f (hearB f m).1.disk.notes/\i_0=(hearB f m).1.disk.safe/\cnRs nilR=t_j (hearB f m).1.way/\(hearB f m).2.1.length=n_0/\(hearB f m).2.2.length=n_0;∃ (b:Front),(q_e f.disk.notes b.disk.notes/\f.disk.safe=b.disk.safe/\q_h f.way b.way)/\((!froB b)=false->∃ (b:Msg),(m.kind=b.kind/\m.to=b.to/\m.frm=b.frm/\m.tx=b.tx/\m.op.kind=b.op.kind/\m.op.who=b.op.who/\m.op.inn=b.op.inn/\m.op.code=b.op.code/\m.op.sec=b.op.sec/\m.op.fam=b.op.fam/\m.op.gen=b.op.gen)/\((!msgB b)=false->((m.to != i_0)=true->k_1)/\((m.to != i_0)=false->∃ (b:Front),(q_e f.disk.notes b.disk.notes/\f.disk.safe=b.disk.safe/\q_h f.way b.way)/\smallF b/\(∃ (b_1:Front×Msg),((q_f b.disk.notes b_1.1.disk.notes/\b.disk.safe=b_1.1.disk.safe/\q_j b.way b_1.1.way)/\m.kind=b_1.2.kind/\m.to=b_1.2.to/\m.frm=b_1.2.frm/\m.tx=b_1.2.tx/\m.op.kind=b_1.2.op.kind/\m.op.who=b_1.2.op.who/\m.op.inn=b_1.2.op.inn/\m.op.code=b_1.2.op.code/\m.op.sec=b_1.2.op.sec/\m.op.fam=b_1.2.op.fam/\m.op.gen=b_1.2.op.gen)/\(okF b_1.1/\(b_1.2.frm=i_0∨i_1<=b_1.2.frm/\b_1.2.frm<=i_3)/\(i_4<=b_1.2.kind->i_1<=b_1.2.frm/\b_1.2.frm<=i_3))/\q_f (hearF b_1.1 b_1.2).1.disk.notes (hearB f m).1.disk.notes/\(hearF b_1.1 b_1.2).1.disk.safe=(hearB f m).1.disk.safe/\q_j (hearF b_1.1 b_1.2).1.way (hearB f m).1.way/\q_g (hearF b_1.1 b_1.2).2.1 (hearB f m).2.1/\q_k (hearF b_1.1 b_1.2).2.2 (hearB f m).2.2)))/\((!msgB b)=true->k_1))/\((!froB b)=true->k_1))=_ by kernel_rfl) ?_
 delta i_0 i_1 i_3 i_4 n_0 t_e q_e t_f q_f t_g q_g t_h q_h t_j q_j t_k q_k
 simp only [zza,zzb,true_and,and_true,and_self,ne_eq,cI_app,cWrtO_app,cWrtS_app,cWrtO_1,cItemO_1,opr_ex,zcast,frz_nil,nil_map,Option.getD_none,Option.getD_some]
 have no:(froB f&&msgB m&&decide (m.to=0))=false->[]=(hearB f m).1.disk.notes/\0=(hearB f m).1.disk.safe/\[]=(hearB f m).1.way/\(hearB f m).2.1.length=0/\(hearB f m).2.2.length=0:=fun h=>by
  simp only [hearB,h];exact ⟨rfl,rfl,rfl,rfl,rfl⟩
 refine ⟨fun h1=>⟨fun h2=>⟨fun h3=>no (by simp [h3]),fun h3=>?_⟩,fun h2=>no (by simp at h2;simp [h2])⟩,fun h1=>no (by simp at h1;simp [h1])⟩
 simp only [Bool.not_eq_false'] at h1 h2
 have h3:m.to=0:=by simpa using h3
 have e:hearB f m=hearF f m:=by simp only [hearB,h1,h2,h3,decide_true,Bool.and_self,if_true]
 rw [e]
 exact ⟨(froB_iff.1 h1).small,froB_iff.1 h1,(msg_frm h2).1,(msg_frm h2).2,rfl,rfl,rfl,rfl,rfl⟩
def impl_FroHear_c:Con Tryz.prog:=con0 [.lend,.lend] fun b:Front×Msg=>impl_FroHear_ok (b.1) (b.2)
theorem laws_jaFront_ok (a:Front) (b:Front):FunOK Tryz.prog 28 2 [] [(0,kFrontS a),(1,kFrontS b)] (·=[(2,kB (decide (a=b)))]):=by
 refine fun_to (E:=⟨tabM,ctOf [laws_jaInts_c,laws_jaDisk_c],75,[],[(0,[2,3]),(1,[2,3,22]),(2,[4]),(3,[2,3,5]),(4,[2,3,5,27]),(5,[2,3,5]),(6,[2,3,5,6]),(7,[2,3,5,6,7]),(8,[2,3,5,74]),(9,[4]),(10,[4])],[(0,⟨List Note×Int×List FTx×Nat,fun x=>[(2,⟨.box,[.c (.sh 107 (typ dNote eNoteS a.disk.notes)),.c (.n .i64 a.disk.safe),.c (.sh 69 (typ dFTx eFTxS a.way))],[]⟩),(3,⟨.box,[.c (sNotes (x.1)),.c (.n .i64 (x.2.1)),.c (sFTxs (x.2.2.1))],[]⟩),(5,(k1 (.n .i64 (x.2.2.2:Int))))]⟩)],[],[],[]⟩) tabM_ok mixed Tryz.func28 rfl Tryz.ntmps28 (rvs:=[.tmp 4]) Tryz.results28 rfl fun hl=>?_
 refine cast (show (let k_1:Prop:=q_e a.disk.notes a.disk.notes/\a.disk.safe=a.disk.safe/\q_h a.way a.way;∃ (b_1:Disk×Disk),((q_e a.disk.notes b_1.1.notes/\a.disk.safe=b_1.1.safe)/\q_e b.disk.notes b_1.2.notes/\b.disk.safe=b_1.2.safe)/\((!decide (b_1.1=b_1.2))=false->(((zi a.way.length) != zi b.way.length)=true->false=decide (a=b))/\(((zi a.way.length) != zi b.way.length)=false->∃ (pre:y_22->Prop),∃ (μ:y_22->Nat),∃ (x0:y_22),(k_1/\(q_e b.disk.notes x0.1/\b.disk.safe=x0.2.1/\q_h b.way x0.2.2.1)/\i_0=zi x0.2.2.2)/\pre x0/\(∀ (x:y_22),pre x->(decide (zi x.2.2.2<zi a.way.length)=true->(i_0<=zi x.2.2.2/\zi x.2.2.2<zi a.way.length)/\(i_0<=zi x.2.2.2/\zi x.2.2.2<zi x.2.2.1.length)/\(((g_FTx a.way x.2.2.2).tx != (g_FTx x.2.2.1 x.2.2.2).tx)=false->((if true=true then !((g_FTx a.way x.2.2.2).op.kind==(g_FTx x.2.2.1 x.2.2.2).op.kind&&((g_FTx a.way x.2.2.2).op.who==(g_FTx x.2.2.1 x.2.2.2).op.who&&((g_FTx a.way x.2.2.2).op.inn==(g_FTx x.2.2.1 x.2.2.2).op.inn&&((g_FTx a.way x.2.2.2).op.code==(g_FTx x.2.2.1 x.2.2.2).op.code&&((g_FTx a.way x.2.2.2).op.sec==(g_FTx x.2.2.1 x.2.2.2).op.sec&&((g_FTx a.way x.2.2.2).op.fam==(g_FTx x.2.2.1 x.2.2.2).op.fam&&(g_FTx a.way x.2.2.2).op.gen==(g_FTx x.2.2.1 x.2.2.2).op.gen)))))) else (g_FTx a.way x.2.2.2).op.kind==(g_FTx x.2.2.1 x.2.2.2).op.kind&&((g_FTx a.way x.2.2.2).op.who==(g_FTx x.2.2.1 x.2.2.2).op.who&&((g_FTx a.way x.2.2.2).op.inn==(g_FTx x.2.2.1 x.2.2.2).op.inn&&((g_FTx a.way x.2.2.2).op.code==(g_FTx x.2.2.1 x.2.2.2).op.code&&((g_FTx a.way x.2.2.2).op.sec==(g_FTx x.2.2.1 x.2.2.2).op.sec&&((g_FTx a.way x.2.2.2).op.fam==(g_FTx x.2.2.1 x.2.2.2).op.fam&&(g_FTx a.way x.2.2.2).op.gen==(g_FTx x.2.2.1 x.2.2.2).op.gen))))))=false->((if true=true then !(g_FTx a.way x.2.2.2).yes==(g_FTx x.2.2.1 x.2.2.2).yes else (g_FTx a.way x.2.2.2).yes==(g_FTx x.2.2.1 x.2.2.2).yes)=false->∃ (b_2:y_10),(q_I (g_FTx a.way x.2.2.2).can b_2.1/\q_I (g_FTx x.2.2.1 x.2.2.2).can b_2.2)/\((!decide (b_2.1=b_2.2))=false->∃ (b_3:y_10),(q_I (g_FTx a.way x.2.2.2).know b_3.1/\q_I (g_FTx x.2.2.1 x.2.2.2).know b_3.2)/\((!decide (b_3.1=b_3.2))=true->false=decide (a=b))/\((!decide (b_3.1=b_3.2))=false->∃ (y:y_22),(k_1/\(q_e x.1 y.1/\x.2.1=y.2.1/\q_h x.2.2.1 y.2.2.1)/\wr_ ((zi x.2.2.2)+i_1)=zi y.2.2.2)/\pre y/\μ y<μ x))/\((!decide (b_2.1=b_2.2))=true->false=decide (a=b)))/\((if true=true then !(g_FTx a.way x.2.2.2).yes==(g_FTx x.2.2.1 x.2.2.2).yes else (g_FTx a.way x.2.2.2).yes==(g_FTx x.2.2.1 x.2.2.2).yes)=true->false=decide (a=b)))/\((if true=true then !((g_FTx a.way x.2.2.2).op.kind==(g_FTx x.2.2.1 x.2.2.2).op.kind&&((g_FTx a.way x.2.2.2).op.who==(g_FTx x.2.2.1 x.2.2.2).op.who&&((g_FTx a.way x.2.2.2).op.inn==(g_FTx x.2.2.1 x.2.2.2).op.inn&&((g_FTx a.way x.2.2.2).op.code==(g_FTx x.2.2.1 x.2.2.2).op.code&&((g_FTx a.way x.2.2.2).op.sec==(g_FTx x.2.2.1 x.2.2.2).op.sec&&((g_FTx a.way x.2.2.2).op.fam==(g_FTx x.2.2.1 x.2.2.2).op.fam&&(g_FTx a.way x.2.2.2).op.gen==(g_FTx x.2.2.1 x.2.2.2).op.gen)))))) else (g_FTx a.way x.2.2.2).op.kind==(g_FTx x.2.2.1 x.2.2.2).op.kind&&((g_FTx a.way x.2.2.2).op.who==(g_FTx x.2.2.1 x.2.2.2).op.who&&((g_FTx a.way x.2.2.2).op.inn==(g_FTx x.2.2.1 x.2.2.2).op.inn&&((g_FTx a.way x.2.2.2).op.code==(g_FTx x.2.2.1 x.2.2.2).op.code&&((g_FTx a.way x.2.2.2).op.sec==(g_FTx x.2.2.1 x.2.2.2).op.sec&&((g_FTx a.way x.2.2.2).op.fam==(g_FTx x.2.2.1 x.2.2.2).op.fam&&(g_FTx a.way x.2.2.2).op.gen==(g_FTx x.2.2.1 x.2.2.2).op.gen))))))=true->false=decide (a=b)))/\(((g_FTx a.way x.2.2.2).tx != (g_FTx x.2.2.1 x.2.2.2).tx)=true->false=decide (a=b)))/\(decide (zi x.2.2.2<zi a.way.length)=false->true=decide (a=b)))))/\((!decide (b_1.1=b_1.2))=true->false=decide (a=b)))=_ by kernel_rfl) ?_
 delta i_0 i_1 wr_ zi t_I q_I y_10 t_e q_e g_FTx t_h q_h y_22
 simp only [zza,zzb,true_and,and_true,and_self,ne_eq,cI_app,cWrtO_app,cWrtS_app,cWrtO_1,cItemO_1,opr_ex,zcast,frz_nil,nil_map,Option.getD_none,Option.getD_some]
 have hx:a.way.length<=9223372036854775807:=hl.1 (.c (sFTxs a.way)) (by simp)
 simp only [if_true]
 refine ⟨fun h1=>⟨fun h2=>?_,fun h2=>?_⟩,fun h1=>?_⟩
 ·exact (decide_eq_false fun he=>h2 (by rw [he])).symm
 rotate_left
 ·exact (decide_eq_false fun he=>by subst he;simp at h1).symm
 have hd:a.disk=b.disk:=by simpa using h1
 have hlen:=len_ne h2
 refine ⟨fun z=>z.1=b.disk.notes/\z.2.1=b.disk.safe/\z.2.2.1=b.way/\z.2.2.2<=a.way.length/\∀ j,j<z.2.2.2->a.way.getD j dFTx=b.way.getD j dFTx,⟨rfl,rfl,rfl,by simp only;omega,fun j hj=>absurd hj (Nat.not_lt_zero _)⟩,fun z=>a.way.length-z.2.2.2,fun c1 c2 c3 i hp=>?_⟩
 simp only at hp
 obtain ⟨rfl,rfl,rfl,h3,h4⟩:=hp
 have no:a.way.getD i dFTx≠b.way.getD i dFTx->false=decide (a=b):=fun h=>(decide_eq_false fun he=>h (by rw [he])).symm
 have go:i<a.way.length->a.way.getD i dFTx=b.way.getD i dFTx->∃ x:Nat,IntKind.i64.wrap ((i:Int)+1)=(x:Int)/\(b.disk.notes=b.disk.notes/\b.disk.safe=b.disk.safe/\b.way=b.way/\x<=a.way.length/\∀ j,j<x->a.way.getD j dFTx=b.way.getD j dFTx)/\a.way.length-x<a.way.length-i:=fun hlt e =>
  ⟨i+1,wrapN (by omega),⟨rfl,rfl,rfl,by omega,below_succ h4 e⟩,by omega⟩
 refine ⟨fun hlt=>⟨by omega,hlt,by omega,by omega,?_⟩,fun hge=>(decide_eq_true (Front_ext hd (ext_getD (d:=dFTx) hlen fun j hj=>h4 j (by omega)))).symm⟩
 have go:=go (by omega)
 clear h4
 generalize a.way.getD i dFTx=X at *
 generalize b.way.getD i dFTx=Y at *
 refine ⟨fun e1=>⟨fun e2=>⟨fun e3=>⟨fun e4=>⟨fun e5=>no ?_,fun e5=>go ?_⟩,fun e4=>no ?_⟩,fun e3=>no ?_⟩,fun e2=>no ?_⟩,fun e1=>no ?_⟩
 ·rintro rfl;simp at e5
 ·obtain ⟨x1,⟨k1,k2,k3,k4,k5,k6,k7⟩,x3,x4,x5⟩:=X
  obtain ⟨y1,⟨l1,l2,l3,l4,l5,l6,l7⟩,y3,y4,y5⟩:=Y
  simp at e1 e2 e3 e4 e5
  simp [e1,e2,e3,e4,e5]
 ·rintro rfl;simp at e4
 ·rintro rfl;simp at e3
 ·rintro rfl;simp at e2
 ·rintro rfl;simp at e1
def laws_jaFront_c:Con Tryz.prog:=con0 [.lend,.lend] fun b:Front×Front=>laws_jaFront_ok (b.1) (b.2)
end Go.Proofs.AI
namespace Go.Proofs.AI
open Go.RowKit Go.Proofs Go.ChangeShapes Go.WideShapes Go.ChangeAt
set_option linter.unusedVariables false
set_option linter.unusedSimpArgs false
theorem open_code {P:Program} {H:Type} {enc:TypeId×Value->H} {w:World} {base:Nat} {spare:Nat->Bool} {held:Bool} {r:Reach} {b0:Nat} {t:TypeId} {v:Value} {d:DataW H} {p:List MemPlace}
  (ht:P.underlying t=some (.slice 5)) (h5:P.underlying 5=some (.int .u8)) (hc:P.cellsOf 5=1) (hval:Value.okWide P w r b0 t v) (h:DataW.Trod enc P w base spare held t v d p) :
  ∃ l,okU l/\Rep P w (fun b=>b<w.heap.size) (sU l) v FP.none:=by
 obtain ⟨A,n,c,rfl⟩:=okWide_slice ht hval
 obtain ⟨fuel,hf⟩:=h
 rcases open_ints ht h5 hc hf with ⟨hcs,hx⟩ | ⟨a,len,cap,zs,hcs,_,hl,hm,hz,hx,hcell,hwz⟩
 ·simp [Value.cells] at hcs
  obtain ⟨rfl,rfl,rfl⟩:=hcs
  refine ⟨[],fun x hx=>(by simp at hx),Rep.sh (es:=typ 0 eU []) (fun _ _=>undef) (Nat.le_refl _) (by decide) (fun h=>absurd h (by decide)) (fun k row h=>?_) (fun k row o x h _=>?_)⟩
  ·rw [typ_l] at h;simp at h
  ·rw [typ_l] at h;simp at h
 ·simp [Value.cells] at hcs
  obtain ⟨rfl,rfl,rfl⟩:=hcs
  have hzl:n<=zs.length:=by
   rw [hz];split<;>omega
  refine ⟨zs.take n,fun x hx=>?_,rep_ints (k:=.u8) hc hl hm (by rw [List.length_take];omega) (fun i hi=>?_)⟩
  ·have:=hwz x (List.mem_of_mem_take hx)
   simp only [Lit.wf,Bool.and_eq_true,decide_eq_true_eq] at this
   have h1:(0:Int)<=x/\x<=255:=this
   omega
  ·rw [hcell i (by omega)]
   simp [List.getD_eq_getElem?_getD,List.getElem?_take,hi]
end Go.Proofs.AI
