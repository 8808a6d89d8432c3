/- What the function of this law does, in data. Conditions: none. -/
import Derived.KernelRfl
import Derived.Test.YthahcnabgjgpfaaGreatDoorK04
namespace Go.Proofs.AI
open Go.RowKit Go.Proofs
set_option linter.unusedVariables false
set_option linter.unusedSimpArgs false
set_option maxRecDepth 100000
theorem impl_DiskOf_ok (d:Disk) (tx:Int):FunOK Tryz.prog 14 2 [] [(0,kDiskS d),(1,kI tx)] (·=[(2,kI (if diskB d=true then ofN d.notes tx else 0))]):=by
 refine fun_to (E:=⟨tab,ctOf [impl_DiskOk_c,impl_of_c],11,[],[(0,[1,2]),(1,[1,2,7]),(2,[4]),(3,[4])],[],[],[],[]⟩) tab_ok mixed Tryz.func14 rfl Tryz.ntmps14 (rvs:=[.tmp 4]) Tryz.results14 rfl fun hl=>?_
 refine cast (show (∃ (b:Disk),(q_e d.notes b.notes/\d.safe=b.safe)/\((!diskB b)=true->i_0=if diskB d=true then ofN d.notes tx else i_0)/\((!diskB b)=false->∃ (b:Disk×Int),((q_e d.notes b.1.notes/\d.safe=b.1.safe)/\tx=b.2)/\ofN b.1.notes b.2=if diskB d=true then ofN d.notes tx else i_0))=_ by kernel_rfl) ?_
 delta i_0 t_e q_e
 simp only [zza,zzb,true_and,and_true,and_self,ne_eq,cI_app,cWrtO_app,cWrtS_app,cWrtO_1,cItemO_1,opr_ex,zcast,frz_nil,nil_map,Option.getD_none,Option.getD_some]
 refine ⟨fun h=>?_,fun h=>?_⟩
 ·have h:diskB d=false:=by simpa only [Bool.not_eq_true'] using h
  rw [if_neg (by rw [h];decide)]
 ·have h:diskB d=true:=by simpa only [Bool.not_eq_false'] using h
  rw [if_pos h]
def impl_DiskOf_c:Con Tryz.prog:=con0 [.lend,.lend] fun b:Disk×Int=>impl_DiskOf_ok (b.1) (b.2)
end Go.Proofs.AI
namespace Go.Proofs.AI
open Go.RowKit Go.Proofs
set_option linter.unusedVariables false
set_option linter.unusedSimpArgs false
set_option maxRecDepth 100000
theorem spec_DrawFroOk_ok (l:List Int) (hpre:okU l):FunOK Tryz.prog 10 1 [] [(0,k1 (sU l))] (·=[(1,kFrontO (frontD (l.take 2000) 0 2).1)]):=by
 refine fun_to (E:=⟨tab,ctOf [spec_l20Front_c,spec_l20Open_c],6,[],[(0,[0,2,5]),(1,[2,5])],[],[],[],[]⟩) tab_ok mixed Tryz.func10 rfl Tryz.ntmps10 (rvs:=[.cell 2 28]) Tryz.results10 rfl fun hl=>?_
 refine cast (show (∃ (b:List Int),q_U l b/\∃ (b_1:y_6),((q_U (List.take n_2000 b) b_1.1/\zi n_0=zi b_1.2.1)/\i_2=b_1.2.2)/\(rdB b_1.1 b_1.2.1 n_4000/\b_1.2.2<i_1000000)/\q_f (frontD b_1.1 b_1.2.1 b_1.2.2).1.disk.notes (frontD (List.take n_2000 l) n_0 i_2).1.disk.notes/\(frontD b_1.1 b_1.2.1 b_1.2.2).1.disk.safe=(frontD (List.take n_2000 l) n_0 i_2).1.disk.safe/\q_j (frontD b_1.1 b_1.2.1 b_1.2.2).1.way (frontD (List.take n_2000 l) n_0 i_2).1.way)=_ by kernel_rfl) ?_
 delta i_2 zi n_0 i_1000000 t_U q_U n_2000 y_6 t_f q_f t_j q_j n_4000
 simp only [zza,zzb,true_and,and_true,and_self,ne_eq,cI_app,cWrtO_app,cWrtS_app,cWrtO_1,cItemO_1,opr_ex,zcast,frz_nil,nil_map,Option.getD_none,Option.getD_some]
 have hu:okU (l.take 2000):=fun x hx=>hpre x (List.mem_of_mem_take hx)
 exact ⟨⟨hu,by omega⟩,by omega⟩
def spec_DrawFroOk_c:Con Tryz.prog:=conP [.lend] fun (b:List Int) h=>spec_DrawFroOk_ok b h
end Go.Proofs.AI
namespace Go.Proofs.AI
open Go.RowKit Go.Proofs
set_option linter.unusedVariables false
set_option linter.unusedSimpArgs false
set_option maxRecDepth 100000
theorem app_nilL (es:Rows CV):appR (raw []) es=es:=by
 obtain ⟨n,f⟩:=es
 simp only [appR,raw,List.length_nil,Nat.zero_add,Nat.not_lt_zero,if_false,Nat.sub_zero]
theorem frz_set (es:Rows CV) (k o:Nat) (x:CV):frozenRs (setF es k o x)=setF (frozenRs es) k o (frozen x):=by
 simp only [frozenRs_map,mapR,setF_eq]
 congr 1
 funext i
 split
 ·exact List.map_set
 ·rfl
theorem froB_at {f:Front} (h:froB f=true) {k:Nat} (hk:k<f.way.length):(f.way.getD k dFTx).yes=(ofN f.disk.notes (f.way.getD k dFTx).tx==2):=by
 have:=(froB_parts h).2.2.2 k hk
 simp only [wayP,Bool.and_eq_true,beq_iff_eq] at this
 exact this.1.2
theorem froB_not {f:Front} {k:Nat} (hk:k<f.way.length) (h:(f.way.getD k dFTx).yes≠(ofN f.disk.notes (f.way.getD k dFTx).tx==2)):froB f=false :=
 Bool.eq_false_iff.2 fun hf=>h (froB_at hf hk)
theorem froB_nil {f:Front} (h:froB f=true):froB ⟨f.disk,[]⟩=true:=by
 simp only [froB,Bool.and_eq_true] at h ⊢
 exact ⟨⟨⟨h.1.1.1,rfl⟩,h.1.2⟩,rfl⟩
theorem laws_FnFroOk_ok (l:List Int) (hpre:okU l):FunOK Tryz.prog 3 1 [] [(0,k1 (sU l))] (·=[(1,kB true)]):=by
 refine fun_to (E:=⟨tab,ctOf [spec_DrawFroOk_c,impl_FroOk_c,spec_FroOk_c,laws_jaOk_c,impl_DiskOf_c],70,[],[(0,[0]),(1,[0,9]),(2,[2]),(3,[3]),(4,[3,4]),(5,[3,4,17]),(6,[2]),(7,[3,19]),(8,[2]),(9,[3,5]),(10,[3,5,25]),(11,[3,5]),(12,[3,5,44]),(13,[2]),(14,[3,5,6]),(15,[3,5,6]),(16,[3,5,65]),(17,[2]),(18,[2])],[(0,⟨Nat,fun x=>[(3,⟨.box,[.c (.sh 72 (frozenRs (typ dNote eNoteO (frontD (List.take (2000:Nat) l) (0:Nat) (2:Int)).fst.disk.notes))),.c (.n .i64 ((frontD (List.take (2000:Nat) l) (0:Nat) (2:Int)).fst.disk.safe)),.c (.sh 36 (frozenRs (typ dFTx eFTxO (frontD (List.take (2000:Nat) l) (0:Nat) (2:Int)).fst.way)))],[]⟩),(5,(k1 (.n .i64 (x:Int))))]⟩)],[(3,[(3,[11])])],[],[]⟩) tab_ok mixed Tryz.func3 rfl Tryz.ntmps3 (rvs:=[.tmp 2]) Tryz.results3 rfl fun hl=>?_
 refine cast (show ((decide ((zi l.length)>i_1048576)=true->true=true)/\(decide ((zi l.length)>i_1048576)=false->∃ (b:List Int),q_U l b/\okU b/\(∃ (b_1:Front),(cnRs (frozenRs (typ dNote eNoteO (frontD (List.take n_2000 b) n_0 i_2).1.disk.notes))=t_e b_1.disk.notes/\(frontD (List.take n_2000 b) n_0 i_2).1.disk.safe=b_1.disk.safe/\cnRs (frozenRs (typ dFTx eFTxO (frontD (List.take n_2000 b) n_0 i_2).1.way))=t_h b_1.way)/\(∃ (b_2:Front),(cnRs (frozenRs (typ dNote eNoteO (frontD (List.take n_2000 b) n_0 i_2).1.disk.notes))=t_e b_2.disk.notes/\(frontD (List.take n_2000 b) n_0 i_2).1.disk.safe=b_2.disk.safe/\cnRs (frozenRs (typ dFTx eFTxO (frontD (List.take n_2000 b) n_0 i_2).1.way))=t_h b_2.way)/\((if true=true then !froB b_1==froB b_2 else froB b_1==froB b_2)=true->false=true)/\((if true=true then !froB b_1==froB b_2 else froB b_1==froB b_2)=false->((!froB b_1)=true->∃ (b:Unit),True/\true=true)/\((!froB b_1)=false->∃ (pre:Nat->Prop),∃ (μ:Nat->Nat),∃ (x0:Nat),((cnRs (frozenRs (typ dNote eNoteO (frontD (List.take n_2000 b) n_0 i_2).1.disk.notes))=cnRs (frozenRs (typ dNote eNoteO (frontD (List.take n_2000 l) n_0 i_2).1.disk.notes))/\(frontD (List.take n_2000 b) n_0 i_2).1.disk.safe=(frontD (List.take n_2000 l) n_0 i_2).1.disk.safe/\cnRs (frozenRs (typ dFTx eFTxO (frontD (List.take n_2000 b) n_0 i_2).1.way))=cnRs (frozenRs (typ dFTx eFTxO (frontD (List.take n_2000 l) n_0 i_2).1.way)))/\i_0=zi x0)/\pre x0/\(∀ (x:Nat),let k_1:Prop:=i_0<=zi x/\zi x<(zi (frontD (List.take n_2000 l) n_0 i_2).1.way.length);pre x->(decide (zi x<(zi (frontD (List.take n_2000 l) n_0 i_2).1.way.length))=true->k_1/\k_1/\(∃ (b:Disk×Int),((cnRs (frozenRs (typ dNote eNoteO (frontD (List.take n_2000 l) n_0 i_2).1.disk.notes))=t_e b.1.notes/\(frontD (List.take n_2000 l) n_0 i_2).1.disk.safe=b.1.safe)/\(g_FTx (frontD (List.take n_2000 l) n_0 i_2).1.way x).tx=b.2)/\((if true=true then !(g_FTx (frontD (List.take n_2000 l) n_0 i_2).1.way x).yes==((if diskB b.1=true then ofN b.1.notes b.2 else i_0)==i_2) else (g_FTx (frontD (List.take n_2000 l) n_0 i_2).1.way x).yes==((if diskB b.1=true then ofN b.1.notes b.2 else i_0)==i_2))=true->false=true)/\((if true=true then !(g_FTx (frontD (List.take n_2000 l) n_0 i_2).1.way x).yes==((if diskB b.1=true then ofN b.1.notes b.2 else i_0)==i_2) else (g_FTx (frontD (List.take n_2000 l) n_0 i_2).1.way x).yes==((if diskB b.1=true then ofN b.1.notes b.2 else i_0)==i_2))=false->(n_0+(frontD (List.take n_2000 l) n_0 i_2).1.way.length)*n_120<=n_140737488355328/\k_1/\(i_0<=zi x/\zi x<(zi (n_0+(frontD (List.take n_2000 l) n_0 i_2).1.way.length)))/\(zi x).toNat<n_0+(frontD (List.take n_2000 l) n_0 i_2).1.way.length/\(∃ (b:Front),(cnRs (frozenRs (typ dNote eNoteO (frontD (List.take n_2000 l) n_0 i_2).1.disk.notes))=t_e b.disk.notes/\(frontD (List.take n_2000 l) n_0 i_2).1.disk.safe=b.disk.safe/\cnRs (frozenRs (setF (appR (raw []) (frozenRs (typ dFTx eFTxO (frontD (List.take n_2000 l) n_0 i_2).1.way))) (zi x).toNat n_8 (CV.b !(g_FTx (frontD (List.take n_2000 l) n_0 i_2).1.way x).yes)))=t_h b.way)/\(froB b=true->false=true)/\(froB b=false->∃ (y:Nat),((cnRs (frozenRs (typ dNote eNoteO (frontD (List.take n_2000 l) n_0 i_2).1.disk.notes))=cnRs (frozenRs (typ dNote eNoteO (frontD (List.take n_2000 l) n_0 i_2).1.disk.notes))/\(frontD (List.take n_2000 l) n_0 i_2).1.disk.safe=(frontD (List.take n_2000 l) n_0 i_2).1.disk.safe/\cnRs (frozenRs (typ dFTx eFTxO (frontD (List.take n_2000 l) n_0 i_2).1.way))=cnRs (frozenRs (typ dFTx eFTxO (frontD (List.take n_2000 l) n_0 i_2).1.way)))/\wr_ ((zi x)+i_1)=zi y)/\pre y/\μ y<μ x)))))/\(decide (zi x<(zi (frontD (List.take n_2000 l) n_0 i_2).1.way.length))=false->∃ (b:Front),(cnRs (frozenRs (typ dNote eNoteO (frontD (List.take n_2000 l) n_0 i_2).1.disk.notes))=t_e b.disk.notes/\(frontD (List.take n_2000 l) n_0 i_2).1.disk.safe=b.disk.safe/\cnRs (frozenRs nilR)=t_h b.way)/\froB b=true))))))))=_ by kernel_rfl) ?_
 delta i_0 i_1 i_2 wr_ zi n_0 n_8 n_140737488355328 t_U q_U n_2000 t_e n_120 g_FTx t_h i_1048576
 simp only [zza,zzb,true_and,and_true,and_self,ne_eq,cI_app,cWrtO_app,cWrtS_app,cWrtO_1,cItemO_1,opr_ex,zcast,frz_nil,nil_map,Option.getD_none,Option.getD_some,if_true]
 intro _
 refine ⟨hpre,?_⟩
 generalize (frontD (List.take 2000 l) 0 2).1=f
 refine ⟨fun h=>by simp at h,fun _=>⟨fun _=>⟨(),trivial⟩,fun h=>?_⟩⟩
 have hf:froB f=true:=by simpa using h
 obtain ⟨g1,g2,g3,g4⟩:=froB_parts hf
 refine ⟨fun i=>i<=f.way.length,by omega,fun i=>f.way.length-i,fun i hi=>⟨fun hlt=>⟨by omega,hlt,by omega,hlt,fun e=>?_,fun _=>⟨by omega,by omega,hlt,by omega,by omega,by omega,?_⟩⟩,fun _=>froB_nil hf⟩⟩
 ·have hlt:i<f.way.length:=by omega
  have:=froB_at hf hlt
  rw [g1,this] at e
  simp at e
 ·have hlt:i<f.way.length:=by omega
  have hy:=froB_at hf hlt
  refine ⟨⟨f.disk,f.way.set i ⟨(f.way.getD i dFTx).tx,(f.way.getD i dFTx).op,!(f.way.getD i dFTx).yes,(f.way.getD i dFTx).can,(f.way.getD i dFTx).know⟩⟩,rfl,rfl,?_,?_⟩
  ·rw [app_nilL,frz_set,fFTxS]
   exact cSetT _ _ _ _ _ (by simp [frozen])
  ·have hb:froB ⟨f.disk,f.way.set i ⟨(f.way.getD i dFTx).tx,(f.way.getD i dFTx).op,!(f.way.getD i dFTx).yes,(f.way.getD i dFTx).can,(f.way.getD i dFTx).know⟩⟩=false:=froB_not (k:=i) (by simpa using hlt) (by
    rw [getD_set_eq _ hlt]
    simp only
    rw [hy]
    cases (ofN f.disk.notes (f.way.getD i dFTx).tx==2)<;>simp)
   rw [hb]
   exact ⟨id,fun _=>⟨i+1,wrapN (by omega),by simp only;omega,by simp only;omega⟩⟩
end Go.Proofs.AI
