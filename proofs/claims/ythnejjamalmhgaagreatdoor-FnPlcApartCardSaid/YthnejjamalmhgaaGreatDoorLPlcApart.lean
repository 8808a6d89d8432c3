/- What the function of this law does, in data. Conditions: none. -/
import Derived.KernelRfl
import Derived.IntWalk
import Derived.Test.YthnejjamalmhgaaGreatDoorProg
import Derived.Test.YthnejjamalmhgaaGreatDoorK05
namespace Go.Proofs.AI
open Go.RowKit Go.Proofs
set_option linter.unusedVariables false
set_option linter.unusedSimpArgs false
set_option maxRecDepth 100000
abbrev y_45:Type:=List Note×Int×List Note×Int×List ByteArray×List ByteArray×Nat
end Go.Proofs.AI
namespace Go.Proofs.AI
open Go.RowKit Go.Proofs
set_option linter.unusedVariables false
set_option linter.unusedSimpArgs false
set_option maxRecDepth 100000
theorem laws_jaHas_ok (xs:List ByteArray) (k:ByteArray):FunOK Tryz.prog 31 2 [] [(0,k1 (sS xs)),(1,kS k)] (·=[(2,kB (xs.any (eqB · k)))]):=by
 refine fun_to (E:=⟨tab,ctOf [],18,[],[(0,[0,1]),(1,[0,1,5]),(2,[0,1,5,9]),(3,[0,1,5]),(4,[0,1,5,17]),(5,[4]),(6,[4])],[(0,⟨Nat,fun x=>[(0,(k1 (.sh 9 (typ ByteArray.empty eS xs)))),(1,(k1 (.s k))),(5,(k1 (.n .i64 (x:Int))))]⟩)],[],[],[]⟩) tab_ok mixed Tryz.func31 rfl Tryz.ntmps31 (rvs:=[.tmp 4]) Tryz.results31 rfl fun hl=>?_
 refine cast (show (∃ (pre:Nat->Prop),∃ (μ:Nat->Nat),∃ (x0:Nat),(q_S xs xs/\k=k/\i_0=zi x0)/\pre x0/\∀ (x:Nat),pre x->(decide (zi x<zi xs.length)=true->(i_0<=zi x/\zi x<zi xs.length)/\(((g_ByteArray xs x).toList==k.toList)=true->true=xs.any fun (x:ByteArray)=>eqB x k)/\(((g_ByteArray xs x).toList==k.toList)=false->∃ (y:Nat),(q_S xs xs/\k=k/\wr_ ((zi x)+i_1)=zi y)/\pre y/\μ y<μ x))/\(decide (zi x<zi xs.length)=false->false=xs.any fun (x:ByteArray)=>eqB x k))=_ by kernel_rfl) ?_
 delta i_0 i_1 wr_ zi g_ByteArray t_S q_S
 have hx:xs.length<=9223372036854775807:=hl.1 _ (List.mem_singleton.2 rfl)
 refine ⟨fun i=>i<=xs.length/\∀ j,j<i->eqB (xs.getD j ByteArray.empty) k=false,fun i=>xs.length-i,0,by simp,by simp,fun x ⟨h1,h2⟩=>⟨fun hlt=>?_,fun hge=>?_⟩⟩
 ·have hlt:x<xs.length:=by simpa using hlt
  exact ⟨⟨by omega,by omega⟩,fun he=>(any_hit hlt he).symm,fun he=>⟨x+1,⟨rfl,rfl,wrapN (by omega)⟩,⟨by omega,below_succ h2 he⟩,muN hlt⟩⟩
 ·have:x=xs.length:=by simp at hge;omega
  subst this
  exact (any_miss h2).symm
def laws_jaHas_c:Con Tryz.prog:=con0 [.lend,.lend] fun b:List ByteArray×ByteArray=>laws_jaHas_ok (b.1) (b.2)
end Go.Proofs.AI
namespace Go.Proofs.AI
open Go.RowKit Go.Proofs
set_option linter.unusedVariables false
set_option linter.unusedSimpArgs false
set_option maxRecDepth 100000
theorem item_ext {a b:Item} (h1:a.key=b.key) (h2:a.val=b.val):a=b:=by cases a;cases b;simp_all
theorem laws_jaSto_ok (a:Sto) (b:Sto):FunOK Tryz.prog 32 2 [] [(0,kSto a),(1,kSto b)] (·=[(2,kB (decide (a=b)))]):=by
 refine fun_to (E:=⟨tab,ctOf [laws_jaInts_c],49,[],[(0,[2,3]),(1,[2,3,12]),(2,[4]),(3,[2,3,5]),(4,[2,3,5,17]),(5,[2,3,5]),(6,[2,3,5,48]),(7,[4]),(8,[4])],[(0,⟨Nat,fun x=>[(2,⟨.box,[.c (.sh 101 (typ dItem eItemS a))],[]⟩),(3,⟨.box,[.c (.sh 101 (typ dItem eItemS b))],[]⟩),(5,(k1 (.n .i64 (x:Int))))]⟩)],[],[],[]⟩) tab_ok mixed Tryz.func32 rfl Tryz.ntmps32 (rvs:=[.tmp 4]) Tryz.results32 rfl fun hl=>?_
 refine cast (show ((((zi (List.length a)) != (zi (List.length b)))=true->false=decide (a=b))/\(((zi (List.length a)) != (zi (List.length b)))=false->∃ (pre:Nat->Prop),∃ (μ:Nat->Nat),∃ (x0:Nat),(q_a a a/\q_a b b/\i_0=zi x0)/\pre x0/\(∀ (x:Nat),let k_2:Prop:=i_0<=zi x/\zi x<(zi (List.length a));let k_1:Prop:=i_0<=zi x/\zi x<(zi (List.length b));pre x->(decide (zi x<(zi (List.length a)))=true->k_2/\k_1/\((!(List.getD a (zi x).toNat dItem).key.toList==(List.getD b (zi x).toNat dItem).key.toList)=false->k_2/\k_1/\(∃ (b_1:y_14),(q_I (List.getD a (zi x).toNat dItem).val b_1.1/\q_I (List.getD b (zi x).toNat dItem).val b_1.2)/\((!decide (b_1.1=b_1.2))=true->false=decide (a=b))/\((!decide (b_1.1=b_1.2))=false->∃ (y:Nat),(q_a a a/\q_a b b/\wr_ ((zi x)+i_1)=zi y)/\pre y/\μ y<μ x)))/\((!(List.getD a (zi x).toNat dItem).key.toList==(List.getD b (zi x).toNat dItem).key.toList)=true->false=decide (a=b)))/\(decide (zi x<(zi (List.length a)))=false->true=decide (a=b)))))=_ by kernel_rfl) ?_
 delta i_0 i_1 wr_ zi t_I q_I t_a q_a y_14
 have hx:a.length<=9223372036854775807:=hl.1 _ (List.mem_singleton.2 rfl)
 simp only [zza,true_and,and_true,and_self,ne_eq,cI_app,cWrtO_app,cWrtS_app,cWrtO_1,cItemO_1,opr_ex,zcast,frz_nil,nil_map]
 refine ⟨fun h=>?_,fun h=>?_⟩
 ·exact (decide_eq_false fun he=>h (by rw [he])).symm
 have hlen:=len_ne h
 refine ⟨fun i=>i<=a.length/\∀ j,j<i->a.getD j dItem=b.getD j dItem,⟨by omega,fun j hj=>absurd hj (Nat.not_lt_zero _)⟩,fun i=>a.length-i,fun i hp=>?_⟩
 obtain ⟨h1,h2⟩:=hp
 refine ⟨fun hlt=>⟨by omega,hlt,by omega,by omega,fun e1=>⟨by omega,hlt,by omega,by omega,fun e2=>?_,fun e2=>⟨i+1,wrapN (by omega),⟨by omega,below_succ h2 ?_⟩,by simp only;omega⟩⟩,fun e1=>?_⟩,fun hge=>?_⟩
 ·have e2:¬ (a.getD i dItem).val=(b.getD i dItem).val:=by simpa using e2
  exact (decide_eq_false fun he=>e2 (by rw [he])).symm
 ·rw [tl_eq] at e1
  exact item_ext (by simpa using e1) (by simpa using e2)
 ·rw [tl_eq] at e1
  have e1:¬ (a.getD i dItem).key=(b.getD i dItem).key:=by simpa using e1
  exact (decide_eq_false fun he=>e1 (by rw [he])).symm
 ·exact (decide_eq_true (ext_getD (d:=dItem) hlen fun j hj=>h2 j (by omega))).symm
def laws_jaSto_c:Con Tryz.prog:=con0 [.lend,.lend] fun b:Sto×Sto=>laws_jaSto_ok (b.1) (b.2)
end Go.Proofs.AI
namespace Go.Proofs.AI
set_option linter.unusedVariables false
set_option linter.unusedSimpArgs false
theorem ofN_app (ns:List Note) (n:Note) (tx:Int):ofN (ns++[n]) tx=if n.tx=tx/\n.kind≠4 then n.kind else ofN ns tx:=by
 simp only [ofN,List.foldl_append,List.foldl_cons,List.foldl_nil,ofS]
theorem takeEq {ns:List Note} {n:Note} {k:Nat} (h:k<=ns.length):(ns++[n]).take k=ns.take k:=by
 rw [List.take_append_of_le_length h]
theorem getDEq {ns:List Note} {n:Note} {k:Nat} (h:k<ns.length):(ns++[n]).getD k dNote=ns.getD k dNote:=by
 rw [List.getD_eq_getElem?_getD,List.getElem?_append_left h,<- List.getD_eq_getElem?_getD]
theorem getDLast {ns:List Note} {n:Note}:(ns++[n]).getD ns.length dNote=n:=by
 rw [List.getD_eq_getElem?_getD,List.getElem?_append_right (Nat.le_refl _)];simp
theorem foldK_app {ns:List Note} {n:Note}:∀ {k:Nat},k<=ns.length->foldK (ns++[n]) k=foldK ns k
 | 0,_=>rfl
 | k+1,h=>by
  have ih:=foldK_app (ns:=ns) (n:=n) (k:=k) (by omega)
  rw [foldK,foldK,getDEq (ns:=ns) (n:=n) (k:=k) (by omega),takeEq (ns:=ns) (n:=n) (k:=k) (by omega),ih]
theorem fold_app {ns:List Note} {n:Note} (hn:n.kind≠2):foldK (ns++[n]) (ns++[n]).length=foldK ns ns.length:=by
 rw [List.length_append]
 show foldK (ns++[n]) (ns.length+1)=_
 rw [foldK,getDLast,if_neg hn,foldK_app (Nat.le_refl _)]
theorem disk_add {d:Disk} {n:Note} {s:Int} (hd:diskB d=true) (hn:noteB n=true) (hl:d.notes.length≠120) (hs:s=d.safe∨s=(d.notes.length:Int)+1):diskB ⟨d.notes++[n],s⟩=true:=by
 obtain ⟨_,g2,g3,g4⟩:=diskB_small hd
 simp only [diskB,List.length_append,List.length_singleton,Bool.and_eq_true,decide_eq_true_eq,List.all_append,List.all_cons,List.all_nil,Bool.and_true,hn,and_true]
 refine ⟨⟨by omega,?_⟩,List.all_eq_true.2 g4⟩
 simp only [inR,Bool.and_eq_true,decide_eq_true_eq]
 omega
theorem foldD_add {d:Disk} {n:Note} {s:Int} (hd:diskB d=true) (hx:diskB ⟨d.notes++[n],s⟩=true) (hn:n.kind≠2):foldD ⟨d.notes++[n],s⟩=foldD d:=by
 simp only [foldD,hd,hx,if_true]
 exact fold_app hn
theorem prep_none {p:Int} {d:Disk} {m:Msg} (h1:(planI p (foldD d) m.tx m.op).ok=true) (h2:ofN d.notes m.tx≠3) (h3:d.notes.length+(openD d).length<=118) (h4:∀ k∈(planI p (foldD d) m.tx m.op).locks,memB (lockD d) k=false) :
  prepN p d m=some ⟨1,m.tx,(planI p (foldD d) m.tx m.op).locks,(planI p (foldD d) m.tx m.op).writes⟩:=by
 simp only [prepN]
 rw [if_neg]
 rintro (h | h | h | h)
 ·rw [h1] at h;cases h
 ·exact h2 h
 ·omega
 ·obtain ⟨k,hk,h⟩:=List.any_eq_true.1 h
  rw [h4 k hk] at h;cases h
theorem hear_else {p:Int} {d:Disk} {m:Msg} (h:(inR p 1 3&&diskB d&&msgB m&&m.to==p)=false):hearD p d m=(⟨[],0⟩,[]):=by simp only [hearD,h];rfl
end Go.Proofs.AI
namespace Go.Proofs.AI
set_option linter.unusedVariables false
set_option linter.unusedSimpArgs false
theorem note_kind {n:Note} (h:noteB n=true):1<=n.kind/\n.kind<=4:=by
 simp only [noteB,Bool.and_eq_true] at h
 have hk:inR n.kind 1 4=true:=by simp only [h]
 simpa [inR] using hk
theorem fold_pos {tx:Int}:∀ {l:List Note} {a:Int},(∀ n∈l,noteB n=true)->1<=a->1<=l.foldl (ofS tx) a
 | [],_,_,h=>h
 | n::l,a,hl,h=>by
  rw [List.foldl_cons]
  refine fold_pos (fun x hx=>hl x (List.mem_cons_of_mem _ hx)) ?_
  have:=note_kind (hl n (List.mem_cons_self ..))
  rw [ofS];split<;>omega
theorem ofN_pos {ns:List Note} {j:Nat} (h:∀ n∈ns,noteB n=true) (hj:j<ns.length) (hk:(ns.getD j dNote).kind≠4):1<=ofN ns (ns.getD j dNote).tx:=by
 rw [<- ofN_drop hj rfl hk,drop_at (d:=dNote) hj,ofN,List.foldl_cons]
 refine fold_pos (fun x hx=>h x (List.mem_of_mem_drop hx)) ?_
 have:=note_kind (h (ns.getD j dNote) (by rw [getD_lt hj];exact List.getElem_mem hj))
 rw [ofS,if_pos ⟨rfl,hk⟩];exact this.1
theorem ofN_one {n:Note} (h1:n.kind=1):ofN [n] n.tx=1:=by
 simp [ofN,ofS,h1]
theorem dropEq {ns:List Note} {n:Note} {j:Nat} (h:j<=ns.length):(ns++[n]).drop j=ns.drop j++[n]:=by
 rw [List.drop_append_of_le_length h]
theorem cond_add {ns:List Note} {n:Note} (h:∀ x∈ns,noteB x=true) (h1:n.kind=1) (h0:ofN ns n.tx=0) {j:Nat} (hj:j<ns.length) :
  ((ns.getD j dNote).kind=1/\ofN ((ns++[n]).drop j) (ns.getD j dNote).tx=1)↔((ns.getD j dNote).kind=1/\ofN (ns.drop j) (ns.getD j dNote).tx=1):=by
 refine and_congr_right fun hk=>?_
 rw [dropEq (by omega),ofN_app]
 by_cases e:n.tx=(ns.getD j dNote).tx
 ·have:=ofN_pos h hj (by rw [hk];decide)
  rw [<- e] at this;omega
 ·rw [if_neg (fun h=>e h.1)]
theorem lock_add {ns:List Note} {n:Note} (h:∀ x∈ns,noteB x=true) (h1:n.kind=1) (h0:ofN ns n.tx=0):lockK (ns++[n]) (ns++[n]).length=addL (lockK ns ns.length) n.locks:=by
 have key:∀ k,k<=ns.length->lockK (ns++[n]) k=lockK ns k:=by
  intro k
  induction k with
  | zero=>intro _;rfl
  | succ k ih =>
   intro hk
   have hc:=cond_add h h1 h0 (j:=k) (by omega)
   rw [lockK,lockK,getDEq (ns:=ns) (n:=n) (k:=k) (by omega),ih (by omega)]
   by_cases c:(ns.getD k dNote).kind=1/\ofN (ns.drop k) (ns.getD k dNote).tx=1
   ·rw [if_pos c,if_pos (hc.2 c)]
   ·rw [if_neg c,if_neg (fun x=>c (hc.1 x))]
 rw [List.length_append]
 show lockK (ns++[n]) (ns.length+1)=_
 rw [lockK,getDLast,if_pos ⟨h1,by rw [dropEq (Nat.le_refl _),List.drop_length,List.nil_append];exact ofN_one h1⟩,key _ (Nat.le_refl _)]
theorem open_add {ns:List Note} {n:Note} (h:∀ x∈ns,noteB x=true) (h1:n.kind=1) (h0:ofN ns n.tx=0):(openK (ns++[n]) (ns++[n]).length).length=(openK ns ns.length).length+1:=by
 have key:∀ k,k<=ns.length->openK (ns++[n]) k=openK ns k:=by
  intro k
  induction k with
  | zero=>intro _;rfl
  | succ k ih =>
   intro hk
   have hc:=cond_add h h1 h0 (j:=k) (by omega)
   rw [openK,openK,getDEq (ns:=ns) (n:=n) (k:=k) (by omega),ih (by omega)]
   by_cases c:(ns.getD k dNote).kind=1/\ofN (ns.drop k) (ns.getD k dNote).tx=1/\((openK ns k).any fun x=>x==(ns.getD k dNote).tx)=false
   ·have c':=hc.2 ⟨c.1,c.2.1⟩
    rw [if_pos c,if_pos ⟨c'.1,c'.2,c.2.2⟩]
   ·rw [if_neg c,if_neg (fun x=>by have:=hc.1 ⟨x.1,x.2.1⟩;exact c ⟨this.1,this.2,x.2.2⟩)]
 have hno:((openK ns ns.length).any fun x=>x==n.tx)=false:=by
  cases hh:(openK ns ns.length).any fun x=>x==n.tx
  ·rfl
  ·have:=openK_all (Nat.le_refl _) hh
   rw [h0] at this;cases this
 have h1':ofN ((ns++[n]).drop ns.length) n.tx=1:=by rw [dropEq (Nat.le_refl _),List.drop_length,List.nil_append];exact ofN_one h1
 rw [List.length_append]
 show (openK (ns++[n]) (ns.length+1)).length=_
 rw [openK,getDLast,key _ (Nat.le_refl _),if_pos ⟨h1,h1',hno⟩,List.length_append];rfl
theorem memB_iff {l:List ByteArray} {k:ByteArray}:memB l k=true↔k∈l:=by
 simp only [memB,List.any_eq_true]
 exact ⟨fun ⟨x,hx,h⟩=>by rw [<- eqB_eq h];exact hx,fun h=>⟨k,h,eqB_self k⟩⟩
theorem addL_new:∀ {l a:List ByteArray},(∀ k∈l,memB a k=false)->l.Nodup->addL a l=a++l
 | [],a,_,_=>by simp [addL]
 | k::l,a,h,hn=>by
  have hk:=h k (List.mem_cons_self ..)
  obtain ⟨n1,n2⟩:=List.nodup_cons.1 hn
  have:=addL_new (l:=l) (a:=a++[k]) (fun x hx=>by
   cases e:memB (a++[k]) x
   ·rfl
   ·have:=memB_iff.1 e
    rcases List.mem_append.1 this with h1 | h1
    ·have h2:=h x (List.mem_cons_of_mem _ hx)
     rw [memB_iff.2 h1] at h2;cases h2
    ·have:x=k:=by simpa using h1
     subst this;exact absurd hx n1) n2
  simp only [addL] at this ⊢
  rw [List.foldl_cons,if_neg (by rw [hk];decide),this,List.append_assoc];rfl
theorem planI_nodup {p:Int} {s:Sto} {tx:Int} {o:Opr} (ho:opOk o=true) (hok:(planI p s tx o).ok=true):(planI p s tx o).locks.Nodup:=by
 by_cases hc:(plcB p s&&inR tx 0 29&&(placesL o).any (p==·))=true
 ·have e:planI p s tx o=planP p s tx o:=by simp only [planI,if_pos hc]
  rw [e]
  simp only [Bool.and_eq_true] at hc
  exact (plan_keys hc.1.1 ho tx).1
 ·simp only [planI,if_neg hc] at hok;cases hok
theorem msg_op {m:Msg} (hm:msgB m=true) (hk:m.kind=1):opOk m.op=true:=by
 simp only [msgB,Bool.and_eq_true,hk,if_true] at hm;exact hm.2.2
structure Apart (p:Int) (d:Disk) (m n:Msg):Prop where
 three:(hearD p d n).2=[msgF 4 p n.tx]
 four:(hearD p (hearD p d n).1 m).2=[msgF 4 p m.tx]
 locks:∀ k∈lockD (hearD p (hearD p d m).1 n).1,k∈lockD (hearD p (hearD p d n).1 m).1
 len:(lockD (hearD p (hearD p d m).1 n).1).length=(lockD (hearD p (hearD p d n).1 m).1).length
 fold:foldD (hearD p (hearD p d m).1 n).1=foldD (hearD p (hearD p d n).1 m).1
theorem valid_of {p:Int} {d:Disk} {m:Msg} (h:(hearD p d m).2.length=1):inR p 1 3=true/\diskB d=true/\msgB m=true/\m.to=p:=by
 rcases Bool.eq_false_or_eq_true (inR p 1 3&&diskB d&&msgB m&&m.to==p) with hv | hv
 ·simp only [Bool.and_eq_true,beq_iff_eq] at hv
  exact ⟨hv.1.1.1,hv.1.1.2,hv.1.2,hv.2⟩
 ·rw [hear_else hv] at h;cases h
theorem lockD_add {d:Disk} {n:Note} {s:Int} (hd:diskB d=true) (hx:diskB ⟨d.notes++[n],s⟩=true) (h1:n.kind=1) (h0:ofN d.notes n.tx=0):lockD ⟨d.notes++[n],s⟩=addL (lockD d) n.locks:=by
 simp only [lockD,hd,hx,if_true]
 exact lock_add (diskB_small hd).2.2.2 h1 h0
theorem openD_add {d:Disk} {n:Note} {s:Int} (hd:diskB d=true) (hx:diskB ⟨d.notes++[n],s⟩=true) (h1:n.kind=1) (h0:ofN d.notes n.tx=0):(openD ⟨d.notes++[n],s⟩).length=(openD d).length+1:=by
 simp only [openD,hd,hx,if_true]
 exact open_add (diskB_small hd).2.2.2 h1 h0
theorem hear_can {p:Int} {d:Disk} {m:Msg} (hp:inR p 1 3=true) (hd:diskB d=true) (hm:msgB m=true) (ht:m.to=p) (hk:m.kind=1) (ho:ofN d.notes m.tx=0) (hP:(planI p (foldD d) m.tx m.op).ok=true) (hl:d.notes.length+(openD d).length<=118)
  (hlk:∀ k∈(planI p (foldD d) m.tx m.op).locks,memB (lockD d) k=false) :
  hearD p d m=(⟨d.notes++[⟨1,m.tx,(planI p (foldD d) m.tx m.op).locks,(planI p (foldD d) m.tx m.op).writes⟩],(d.notes.length:Int)+1⟩,[msgF 4 p m.tx]):=by
 have h:=prep_none (m:=m) hP (by omega) hl hlk
 cases hear_cases hp hd hm ht with
 | had _ o=>omega
 | cant _ _ h2=>rw [h] at h2;cases h2
 | can P _ _ e _ _ _ _ he=>rw [he,e]
 | full k | yes k | knew k | no k | vain k=>rw [hk] at k;exact absurd k (by decide)
theorem hear_had {p:Int} {d:Disk} {m:Msg} (hp:inR p 1 3=true) (hd:diskB d=true) (hm:msgB m=true) (ht:m.to=p) (hk:m.kind=1) (ho:ofN d.notes m.tx=1∨ofN d.notes m.tx=2):hearD p d m=(d,[msgF 4 p m.tx]):=by
 cases hear_cases hp hd hm ht with
 | had _ _ e=>exact e
 | cant _ o=>exact absurd ho o
 | can _ _ o=>omega
 | full k | yes k | knew k | no k | vain k=>rw [hk] at k;exact absurd k (by decide)
theorem of_other {ns:List Note} {n:Note} {tx:Int} (h:n.tx≠tx):ofN (ns++[n]) tx=ofN ns tx:=by
 rw [ofN_app,if_neg (fun x=>h x.1)]
theorem apart_of {p:Int} {d:Disk} {m n:Msg} (hmk:m.kind=1) (hnk:n.kind=1) (htx:m.tx≠n.tx) (h1:(hearD p d m).2.length=1) (h4:((hearD p d m).2.getD 0 dMsg).kind=4)
  (h2:(hearD p (hearD p d m).1 n).2.length=1) (h5:((hearD p (hearD p d m).1 n).2.getD 0 dMsg).kind=4):Apart p d m n:=by
 obtain ⟨hp,hd,hm,ht⟩:=valid_of h1
 obtain ⟨_,hx,hn,hnt⟩:=valid_of h2
 obtain ⟨_,g2,g3,g4⟩:=diskB_small hd
 cases hear_cases hp hd hm ht with
 | full k | yes k | knew k | no k | vain k=>rw [hmk] at k;exact absurd k (by decide)
 | cant _ _ _ e=>rw [e] at h4;cases h4
 | had _ o e =>
  rw [e] at h2 h5 hx
  simp only at h2 h5 hx
  have key:(hearD p d n).2=[msgF 4 p n.tx]/\(hearD p (hearD p d n).1 m)=((hearD p d n).1,[msgF 4 p m.tx]):=by
   cases hear_cases hp hd hn hnt with
   | full k | yes k | knew k | no k | vain k=>rw [hnk] at k;exact absurd k (by decide)
   | cant _ _ _ e2=>rw [e2] at h5;cases h5
   | had _ _ e2=>rw [e2];exact ⟨rfl,e⟩
   | can Q _ _ _ _ hl _ hnn e2 =>
    rw [e2]
    exact ⟨rfl,hear_had hp (disk_add hd hnn (by omega) (.inr rfl)) hm ht hmk (by rw [of_other (show n.tx≠m.tx from Ne.symm htx)];exact o)⟩
  refine ⟨key.1,by rw [key.2],?_,?_,?_⟩<;>rw [key.2,e]<;>simp only
  ·exact fun k hk=>hk
 | can P _ o hP ok hl hlk hnn e =>
  have hX:=disk_add hd hnn (by omega) (.inr rfl)
  have hfX:=foldD_add (n:=⟨1,m.tx,P.locks,P.writes⟩) hd hX (show (1:Int)≠2 by decide)
  have hlX:=lockD_add (n:=⟨1,m.tx,P.locks,P.writes⟩) hd hX rfl o
  have hoX:=openD_add (n:=⟨1,m.tx,P.locks,P.writes⟩) hd hX rfl o
  have hPn:P.locks.Nodup:=by rw [hP] at ok ⊢;exact planI_nodup (msg_op hm hmk) ok
  rw [addL_new hlk hPn] at hlX
  rw [e] at h2 h5
  simp only at h2 h5
  cases hear_cases hp hX hn hnt with
  | full k | yes k | knew k | no k | vain k=>rw [hnk] at k;exact absurd k (by decide)
  | cant _ _ _ e2=>rw [e2] at h5;cases h5
  | had _ o2 e2 =>
   simp only [of_other (ns:=d.notes) (n:=⟨1,m.tx,P.locks,P.writes⟩) htx] at o2
   have e3:=hear_had hp hd hn hnt hnk o2
   refine ⟨by rw [e3],by rw [e3];simp only;rw [e],?_,?_,?_⟩<;>rw [e3,e]<;>simp only [e2,e]
   ·exact fun k hk=>hk
  | can Q _ o2 hQ okQ hl2 hlk2 hnn2 e2 =>
   simp only [of_other (ns:=d.notes) (n:=⟨1,m.tx,P.locks,P.writes⟩) htx] at o2
   rw [hfX] at hQ
   simp only [List.length_append,List.length_singleton,hoX] at hl2
   rw [hlX] at hlk2
   have hQn:Q.locks.Nodup:=by rw [hQ] at okQ ⊢;exact planI_nodup (msg_op hn hnk) okQ
   have hQd:∀ k∈Q.locks,memB (lockD d) k=false:=fun k hk=>by
    cases h:memB (lockD d) k
    ·rfl
    ·have:=hlk2 k hk
     rw [memB_iff.2 (List.mem_append_left _ (memB_iff.1 h))] at this;cases this
   have hQP:∀ k∈Q.locks,k ∉ P.locks:=fun k hk h=>by
    have:=hlk2 k hk
    rw [memB_iff.2 (List.mem_append_right _ h)] at this;cases this
   have e3:hearD p d n=(⟨d.notes++[⟨1,n.tx,Q.locks,Q.writes⟩],(d.notes.length:Int)+1⟩,[msgF 4 p n.tx]):=by
    have:=hear_can hp hd hn hnt hnk o2 (by rw [<- hQ];exact okQ) hl (by rw [<- hQ];exact hQd)
    rw [this,<- hQ]
   have hU:=disk_add (n:=⟨1,n.tx,Q.locks,Q.writes⟩) hd hnn2 (by omega) (.inr rfl)
   have hfU:=foldD_add (n:=⟨1,n.tx,Q.locks,Q.writes⟩) hd hU (show (1:Int)≠2 by decide)
   have hlU:=lockD_add (n:=⟨1,n.tx,Q.locks,Q.writes⟩) hd hU rfl o2
   have hoU:=openD_add (n:=⟨1,n.tx,Q.locks,Q.writes⟩) hd hU rfl o2
   rw [addL_new hQd hQn] at hlU
   have hPU:∀ k∈P.locks,memB (lockD ⟨d.notes++[⟨1,n.tx,Q.locks,Q.writes⟩],(d.notes.length:Int)+1⟩) k=false:=fun k hk=>by
    rw [hlU]
    cases h:memB (lockD d++Q.locks) k
    ·rfl
    ·rcases List.mem_append.1 (memB_iff.1 h) with h | h
     ·have:=hlk k hk
      rw [memB_iff.2 h] at this;cases this
     ·exact absurd hk (hQP k h)
   have oU:ofN (d.notes++[⟨1,n.tx,Q.locks,Q.writes⟩]) m.tx=0:=by rw [of_other (ns:=d.notes) (n:=⟨1,n.tx,Q.locks,Q.writes⟩) (Ne.symm htx)];exact o
   have oX:ofN (d.notes++[⟨1,m.tx,P.locks,P.writes⟩]) n.tx=0:=by rw [of_other (ns:=d.notes) (n:=⟨1,m.tx,P.locks,P.writes⟩) htx];exact o2
   have e4:hearD p ⟨d.notes++[⟨1,n.tx,Q.locks,Q.writes⟩],(d.notes.length:Int)+1⟩ m=(⟨(d.notes++[⟨1,n.tx,Q.locks,Q.writes⟩])++[⟨1,m.tx,P.locks,P.writes⟩],((d.notes++[(⟨1,n.tx,Q.locks,Q.writes⟩:Note)]).length:Int)+1⟩,[msgF 4 p m.tx]):=by
    have hP':planI p (foldD ⟨d.notes++[⟨1,n.tx,Q.locks,Q.writes⟩],(d.notes.length:Int)+1⟩) m.tx m.op=P:=by rw [hfU,hP]
    have hlen:(d.notes++[(⟨1,n.tx,Q.locks,Q.writes⟩:Note)]).length+(openD ⟨d.notes++[⟨1,n.tx,Q.locks,Q.writes⟩],(d.notes.length:Int)+1⟩).length<=118:=by
     rw [hoU,List.length_append,List.length_singleton];omega
    have:=hear_can hp hU hm ht hmk oU (by rw [hP'];exact ok) hlen (by rw [hP'];exact hPU)
    rw [this,hP']
   have hV:=disk_add (n:=⟨1,m.tx,P.locks,P.writes⟩) hU hnn (by simp only [List.length_append,List.length_singleton];omega) (.inr rfl)
   have hY:=disk_add (n:=⟨1,n.tx,Q.locks,Q.writes⟩) hX hnn2 (by simp only [List.length_append,List.length_singleton];omega) (.inr rfl)
   have hlV:=lockD_add (n:=⟨1,m.tx,P.locks,P.writes⟩) hU hV rfl oU
   have hlY:=lockD_add (n:=⟨1,n.tx,Q.locks,Q.writes⟩) hX hY rfl oX
   rw [addL_new hPU hPn,hlU] at hlV
   rw [addL_new (by rw [hlX];exact hlk2) hQn,hlX] at hlY
   have hfV:=foldD_add (n:=⟨1,m.tx,P.locks,P.writes⟩) hU hV (show (1:Int)≠2 by decide)
   have hfY:=foldD_add (n:=⟨1,n.tx,Q.locks,Q.writes⟩) hX hY (show (1:Int)≠2 by decide)
   refine ⟨by rw [e3],by rw [e3];simp only;rw [e4],?_,?_,?_⟩<;>rw [e3,e]<;>simp only [e2,e4]
   ·rw [hlV,hlY]
    intro k hk
    simp only [List.mem_append] at hk ⊢
    rcases hk with (h | h) | h
    ·exact .inl (.inl h)
    ·exact .inr h
    ·exact .inl (.inr h)
   ·rw [hlV,hlY];simp only [List.length_append];omega
   ·rw [hfV,hfY,hfU,hfX]
end Go.Proofs.AI
namespace Go.Proofs.AI
open Go.RowKit Go.Proofs
set_option linter.unusedVariables false
set_option linter.unusedSimpArgs false
set_option maxRecDepth 100000
theorem laws_FnPlcApart_ok (l1:List Int) (l2:List Int) (hpre:okU l1/\okU l2):FunOK Tryz.prog 7 2 [] [(0,k1 (sU l1)),(1,k1 (sU l2))] (·=[(2,kB true)]):=by
 refine fun_to (E:=⟨tab,ctOf [spec_PlcHear_c,impl_PlcHear_c,spec_DrawPlcHear_c,laws_jaDisk_c,laws_jaOk_c,impl_DiskLocks_c,laws_jaHas_c,laws_jaSto_c,impl_DiskFold_c],175,[],[(0,[0,1]),(1,[0,1,31]),(2,[4]),(3,[1,5,6,7]),(4,[5,6,7,10]),(5,[5,6,7,10,11,12,44,48,50]),(6,[5,6,7,10,11,12,13,44,48,50]),(7,[5,6,7,10,11,12,44,48,50,61]),(8,[4]),(9,[5,6,7,10,11,12,44,48,50]),(10,[5,6,7,10,11,90]),(11,[4]),(12,[5,6,7,10,15,16,92,96,98]),(13,[5,6,7,10,15,108]),(14,[4]),(15,[5,7,15,17,18,110,114,116]),(16,[15,18,19,20,110,114,116,117,121,123]),(17,[15,19,145]),(18,[4]),(19,[15,19,21,147]),(20,[15,19,21,22,147,149]),(21,[15,19,21,22,23,147,149]),(22,[15,19,21,22,23,147,149,153]),(23,[15,19,21,22,23,147,149]),(24,[15,19,21,22,23,147,149,162]),(25,[4]),(26,[4])],[(0,⟨List Note×Int×List Note×Int×List ByteArray×List ByteArray×Nat,fun x=>[(15,⟨.box,[.c (sNotes (x.1)),.c (.n .i64 (x.2.1))],[]⟩),(19,⟨.box,[.c (sNotes (x.2.2.1)),.c (.n .i64 (x.2.2.2.1))],[]⟩),(21,(k1 (oS (x.2.2.2.2.1)))),(22,(k1 (oS (x.2.2.2.2.2.1)))),(23,(k1 (.n .i64 (x.2.2.2.2.2.2:Int)))),(147,(k1 .any)),(149,(k1 .any))]⟩)],[(5,[(4,[48])]),(6,[(4,[55])]),(10,[(1000021,[])]),(12,[(4,[96])]),(13,[(1000004,[])]),(15,[(4,[114])]),(16,[(4,[121])]),(17,[(1000009,[]),(1000016,[])]),(26,[(1000000,[]),(1000002,[])])],[],[]⟩) tab_ok mixed Tryz.func7 rfl Tryz.ntmps7 (rvs:=[.tmp 4]) Tryz.results7 rfl fun hl=>?_
 refine cast (show (let k_1:Prop:=∃ (b:Unit),True/\true=true;(decide ((zi l1.length)>i_1048576)=false->(decide ((zi l2.length)>i_1048576)=true->true=true)/\(decide ((zi l2.length)>i_1048576)=false->∃ (b:List Int),q_U l1 b/\okU b/\(∃ (b_1:List Int),q_U l2 b_1/\okU b_1/\(∃ (b_2:Int×Disk×Msg),(hearP (List.take n_2000 b)=b_2.1/\(q_e (hearDk (List.take n_2000 b)).1.notes b_2.2.1.notes/\(hearDk (List.take n_2000 b)).1.safe=b_2.2.1.safe)/\(hearM3 (List.take n_2000 b)).1.kind=b_2.2.2.kind/\(hearM3 (List.take n_2000 b)).1.to=b_2.2.2.to/\(hearM3 (List.take n_2000 b)).1.frm=b_2.2.2.frm/\(hearM3 (List.take n_2000 b)).1.tx=b_2.2.2.tx/\(hearM3 (List.take n_2000 b)).1.op.kind=b_2.2.2.op.kind/\(hearM3 (List.take n_2000 b)).1.op.who=b_2.2.2.op.who/\(hearM3 (List.take n_2000 b)).1.op.inn=b_2.2.2.op.inn/\(hearM3 (List.take n_2000 b)).1.op.code=b_2.2.2.op.code/\(hearM3 (List.take n_2000 b)).1.op.sec=b_2.2.2.op.sec/\(hearM3 (List.take n_2000 b)).1.op.fam=b_2.2.2.op.fam/\(hearM3 (List.take n_2000 b)).1.op.gen=b_2.2.2.op.gen)/\(∃ (b_3:Int×Disk×Msg),(hearP (List.take n_2000 b)=b_3.1/\(q_e (hearDk (List.take n_2000 b)).1.notes b_3.2.1.notes/\(hearDk (List.take n_2000 b)).1.safe=b_3.2.1.safe)/\(hearM3 (List.take n_2000 b)).1.kind=b_3.2.2.kind/\(hearM3 (List.take n_2000 b)).1.to=b_3.2.2.to/\(hearM3 (List.take n_2000 b)).1.frm=b_3.2.2.frm/\(hearM3 (List.take n_2000 b)).1.tx=b_3.2.2.tx/\(hearM3 (List.take n_2000 b)).1.op.kind=b_3.2.2.op.kind/\(hearM3 (List.take n_2000 b)).1.op.who=b_3.2.2.op.who/\(hearM3 (List.take n_2000 b)).1.op.inn=b_3.2.2.op.inn/\(hearM3 (List.take n_2000 b)).1.op.code=b_3.2.2.op.code/\(hearM3 (List.take n_2000 b)).1.op.sec=b_3.2.2.op.sec/\(hearM3 (List.take n_2000 b)).1.op.fam=b_3.2.2.op.fam/\(hearM3 (List.take n_2000 b)).1.op.gen=b_3.2.2.op.gen)/\(∃ (b_4:Disk×Disk),((cnRs (frozenRs (typ dNote eNoteO (hearD b_2.1 b_2.2.1 b_2.2.2).1.notes))=t_e b_4.1.notes/\(hearD b_2.1 b_2.2.1 b_2.2.2).1.safe=b_4.1.safe)/\cnRs (frozenRs (typ dNote eNoteO (hearD b_3.1 b_3.2.1 b_3.2.2).1.notes))=t_e b_4.2.notes/\(hearD b_3.1 b_3.2.1 b_3.2.2).1.safe=b_4.2.safe)/\((!decide (b_4.1=b_4.2))=true->false=true)/\((!decide (b_4.1=b_4.2))=false->(((hearM3 (List.take n_2000 b)).1.kind != i_1)=false->(((hearM3 (List.take n_2000 b_1)).1.kind != i_1)=false->(((hearM3 (List.take n_2000 b)).1.tx==(hearM3 (List.take n_2000 b_1)).1.tx)=false->(((zi (hearD b_2.1 b_2.2.1 b_2.2.2).2.length) != i_1)=false->(i_0<=i_0/\i_0<(zi (hearD b_2.1 b_2.2.1 b_2.2.2).2.length))/\((((hearD b_2.1 b_2.2.1 b_2.2.2).2.getD (Int.toNat i_0) dMsg).kind != i_4)=true->k_1)/\((((hearD b_2.1 b_2.2.1 b_2.2.2).2.getD (Int.toNat i_0) dMsg).kind != i_4)=false->∃ (b_5:Int×Disk×Msg),(hearP (List.take n_2000 b)=b_5.1/\(cnRs (frozenRs (typ dNote eNoteO (hearD b_2.1 b_2.2.1 b_2.2.2).1.notes))=t_e b_5.2.1.notes/\(hearD b_2.1 b_2.2.1 b_2.2.2).1.safe=b_5.2.1.safe)/\(hearM3 (List.take n_2000 b_1)).1.kind=b_5.2.2.kind/\hearP (List.take n_2000 b)=b_5.2.2.to/\(hearM3 (List.take n_2000 b_1)).1.frm=b_5.2.2.frm/\(hearM3 (List.take n_2000 b_1)).1.tx=b_5.2.2.tx/\(hearM3 (List.take n_2000 b_1)).1.op.kind=b_5.2.2.op.kind/\(hearM3 (List.take n_2000 b_1)).1.op.who=b_5.2.2.op.who/\(hearM3 (List.take n_2000 b_1)).1.op.inn=b_5.2.2.op.inn/\(hearM3 (List.take n_2000 b_1)).1.op.code=b_5.2.2.op.code/\(hearM3 (List.take n_2000 b_1)).1.op.sec=b_5.2.2.op.sec/\(hearM3 (List.take n_2000 b_1)).1.op.fam=b_5.2.2.op.fam/\(hearM3 (List.take n_2000 b_1)).1.op.gen=b_5.2.2.op.gen)/\(((zi (hearD b_5.1 b_5.2.1 b_5.2.2).2.length) != i_1)=false->(i_0<=i_0/\i_0<(zi (hearD b_5.1 b_5.2.1 b_5.2.2).2.length))/\((((hearD b_5.1 b_5.2.1 b_5.2.2).2.getD (Int.toNat i_0) dMsg).kind != i_4)=true->k_1)/\((((hearD b_5.1 b_5.2.1 b_5.2.2).2.getD (Int.toNat i_0) dMsg).kind != i_4)=false->∃ (b_6:Int×Disk×Msg),(hearP (List.take n_2000 b)=b_6.1/\(q_e (hearDk (List.take n_2000 b)).1.notes b_6.2.1.notes/\(hearDk (List.take n_2000 b)).1.safe=b_6.2.1.safe)/\(hearM3 (List.take n_2000 b_1)).1.kind=b_6.2.2.kind/\hearP (List.take n_2000 b)=b_6.2.2.to/\(hearM3 (List.take n_2000 b_1)).1.frm=b_6.2.2.frm/\(hearM3 (List.take n_2000 b_1)).1.tx=b_6.2.2.tx/\(hearM3 (List.take n_2000 b_1)).1.op.kind=b_6.2.2.op.kind/\(hearM3 (List.take n_2000 b_1)).1.op.who=b_6.2.2.op.who/\(hearM3 (List.take n_2000 b_1)).1.op.inn=b_6.2.2.op.inn/\(hearM3 (List.take n_2000 b_1)).1.op.code=b_6.2.2.op.code/\(hearM3 (List.take n_2000 b_1)).1.op.sec=b_6.2.2.op.sec/\(hearM3 (List.take n_2000 b_1)).1.op.fam=b_6.2.2.op.fam/\(hearM3 (List.take n_2000 b_1)).1.op.gen=b_6.2.2.op.gen)/\(∃ (b_7:Int×Disk×Msg),(hearP (List.take n_2000 b)=b_7.1/\(cnRs (frozenRs (typ dNote eNoteO (hearD b_6.1 b_6.2.1 b_6.2.2).1.notes))=t_e b_7.2.1.notes/\(hearD b_6.1 b_6.2.1 b_6.2.2).1.safe=b_7.2.1.safe)/\(hearM3 (List.take n_2000 b)).1.kind=b_7.2.2.kind/\(hearM3 (List.take n_2000 b)).1.to=b_7.2.2.to/\(hearM3 (List.take n_2000 b)).1.frm=b_7.2.2.frm/\(hearM3 (List.take n_2000 b)).1.tx=b_7.2.2.tx/\(hearM3 (List.take n_2000 b)).1.op.kind=b_7.2.2.op.kind/\(hearM3 (List.take n_2000 b)).1.op.who=b_7.2.2.op.who/\(hearM3 (List.take n_2000 b)).1.op.inn=b_7.2.2.op.inn/\(hearM3 (List.take n_2000 b)).1.op.code=b_7.2.2.op.code/\(hearM3 (List.take n_2000 b)).1.op.sec=b_7.2.2.op.sec/\(hearM3 (List.take n_2000 b)).1.op.fam=b_7.2.2.op.fam/\(hearM3 (List.take n_2000 b)).1.op.gen=b_7.2.2.op.gen)/\(((zi (hearD b_6.1 b_6.2.1 b_6.2.2).2.length) != i_1)=false->(((zi (hearD b_7.1 b_7.2.1 b_7.2.2).2.length) != i_1)=false->(i_0<=i_0/\i_0<(zi (hearD b_6.1 b_6.2.1 b_6.2.2).2.length))/\((((hearD b_6.1 b_6.2.1 b_6.2.2).2.getD (Int.toNat i_0) dMsg).kind != i_4)=false->(i_0<=i_0/\i_0<(zi (hearD b_7.1 b_7.2.1 b_7.2.2).2.length))/\((((hearD b_7.1 b_7.2.1 b_7.2.2).2.getD (Int.toNat i_0) dMsg).kind != i_4)=true->false=true)/\((((hearD b_7.1 b_7.2.1 b_7.2.2).2.getD (Int.toNat i_0) dMsg).kind != i_4)=false->∃ (b:Disk),(cnRs (frozenRs (typ dNote eNoteO (hearD b_5.1 b_5.2.1 b_5.2.2).1.notes))=t_e b.notes/\(hearD b_5.1 b_5.2.1 b_5.2.2).1.safe=b.safe)/\(∃ (b_8:Disk),(cnRs (frozenRs (typ dNote eNoteO (hearD b_7.1 b_7.2.1 b_7.2.2).1.notes))=t_e b_8.notes/\(hearD b_7.1 b_7.2.1 b_7.2.2).1.safe=b_8.safe)/\(∃ (pre:y_45->Prop),∃ (μ:y_45->Nat),∃ (x0:y_45),((cnRs (frozenRs (typ dNote eNoteO (hearD b_5.1 b_5.2.1 b_5.2.2).1.notes))=t_e x0.1/\(hearD b_5.1 b_5.2.1 b_5.2.2).1.safe=x0.2.1)/\(cnRs (frozenRs (typ dNote eNoteO (hearD b_7.1 b_7.2.1 b_7.2.2).1.notes))=t_e x0.2.2.1/\(hearD b_7.1 b_7.2.1 b_7.2.2).1.safe=x0.2.2.2.1)/\q_S (lockD b) x0.2.2.2.2.1/\q_S (lockD b_8) x0.2.2.2.2.2.1/\i_0=zi x0.2.2.2.2.2.2/\True/\True)/\pre x0/\(∀ (x:y_45),pre x->(decide (zi x.2.2.2.2.2.2<zi x.2.2.2.2.1.length)=true->(i_0<=zi x.2.2.2.2.2.2/\zi x.2.2.2.2.2.2<zi x.2.2.2.2.1.length)/\(zi x.2.2.2.2.2.2).toNat<x.2.2.2.2.1.length/\(∃ (b:y_15),(cnRs (frozenRs (typ ByteArray.empty eS x.2.2.2.2.2.1))=t_S b.1/\g_ByteArray x.2.2.2.2.1 x.2.2.2.2.2.2=b.2)/\((!b.1.any fun (x:ByteArray)=>eqB x b.2)=true->false=true)/\((!b.1.any fun (x:ByteArray)=>eqB x b.2)=false->∃ (y:y_45),((q_e x.1 y.1/\x.2.1=y.2.1)/\(q_e x.2.2.1 y.2.2.1/\x.2.2.2.1=y.2.2.2.1)/\q_S x.2.2.2.2.1 y.2.2.2.2.1/\q_S x.2.2.2.2.2.1 y.2.2.2.2.2.1/\wr_ ((zi x.2.2.2.2.2.2)+i_1)=zi y.2.2.2.2.2.2/\True/\True)/\pre y/\μ y<μ x)))/\(decide (zi x.2.2.2.2.2.2<zi x.2.2.2.2.1.length)=false->((zi x.2.2.2.2.1.length==zi x.2.2.2.2.2.1.length)=true->∃ (b:Disk),(q_e x.1 b.notes/\x.2.1=b.safe)/\(∃ (b_9:Disk),(q_e x.2.2.1 b_9.notes/\x.2.2.2.1=b_9.safe)/\(∃ (b_10:Sto×Sto),(cnRs (frozenRs (typ dItem eItemO (foldD b)))=t_a b_10.1/\cnRs (frozenRs (typ dItem eItemO (foldD b_9)))=t_a b_10.2)/\decide (b_10.1=b_10.2)=true)))/\((zi x.2.2.2.2.1.length==zi x.2.2.2.2.2.1.length)=false->false=true)))))))/\((((hearD b_6.1 b_6.2.1 b_6.2.2).2.getD (Int.toNat i_0) dMsg).kind != i_4)=true->false=true))/\(((zi (hearD b_7.1 b_7.2.1 b_7.2.2).2.length) != i_1)=true->false=true))/\(((zi (hearD b_6.1 b_6.2.1 b_6.2.2).2.length) != i_1)=true->false=true))))/\(((zi (hearD b_5.1 b_5.2.1 b_5.2.2).2.length) != i_1)=true->k_1)))/\(((zi (hearD b_2.1 b_2.2.1 b_2.2.2).2.length) != i_1)=true->k_1))/\(((hearM3 (List.take n_2000 b)).1.tx==(hearM3 (List.take n_2000 b_1)).1.tx)=true->k_1))/\(((hearM3 (List.take n_2000 b_1)).1.kind != i_1)=true->k_1))/\(((hearM3 (List.take n_2000 b)).1.kind != i_1)=true->k_1))))))))/\(decide ((zi l1.length)>i_1048576)=true->true=true))=_ by kernel_rfl) ?_
 delta i_0 i_1 i_4 wr_ zi g_ByteArray t_S q_S t_a t_U q_U n_2000 y_15 t_e q_e i_1048576 y_45
 simp (config:={ maxSteps:=2000000 }) only [zza,zzb,true_and,and_true,and_self,ne_eq,cI_app,cWrtO_app,cWrtS_app,cWrtO_1,cItemO_1,opr_ex,zcast,frz_nil,nil_map,Option.getD_none,Option.getD_some]
 generalize hearP (List.take 2000 l1)=p
 generalize (hearDk (List.take 2000 l1)).1=d
 generalize (hearM3 (List.take 2000 l1)).1=m
 generalize (hearM3 (List.take 2000 l2)).1=n
 by_cases hmk:m.kind=1
 rotate_left
 ·simp [hmk,hpre]
 by_cases hnk:n.kind=1
 rotate_left
 ·simp [hmk,hnk,hpre]
 by_cases htx:m.tx=n.tx
 ·simp [hmk,hnk,htx,hpre]
 by_cases h1:(hearD p d m).2.length=1
 rotate_left
 ·have h1':¬ ((hearD p d m).2.length:Int)=1:=by omega
  simp [hmk,hnk,htx,h1',h1,hpre]
 obtain ⟨b,hb⟩:=List.length_eq_one_iff.1 h1
 by_cases h4:b.kind=4
 rotate_left
 ·simp only [hb]
  simp [hmk,hnk,htx,h4,hpre]
 generalize hN:(⟨n.kind,p,n.frm,n.tx,n.op⟩:Msg)=N
 have hNk:N.kind=1:=by rw [<- hN];exact hnk
 have hNt:m.tx≠N.tx:=by rw [<- hN];exact htx
 by_cases h2:(hearD p (hearD p d m).1 N).2.length=1
 rotate_left
 ·have h2':¬ ((hearD p (hearD p d m).1 N).2.length:Int)=1:=by omega
  simp only [hb]
  simp [hmk,hnk,htx,h4,h2,h2',hpre]
 obtain ⟨c,hc⟩:=List.length_eq_one_iff.1 h2
 by_cases h5:c.kind=4
 rotate_left
 ·simp only [hb,hc]
  simp [hmk,hnk,htx,h4,h5,hpre]
 obtain ⟨a1,a2,a3,a4,a5⟩:=apart_of hmk hNk hNt h1 (by rw [hb];exact h4) h2 (by rw [hc];exact h5)
 simp only [a1,a2,hb,hc]
 generalize (hearD p (hearD p d m).1 N).1=Y at *
 generalize (hearD p (hearD p d N).1 m).1=V at *
 have hY:(lockD Y).length<=9223372036854775806:=by
  have:(lockD Y).length<=2000:=by
   simp only [lockD];split
   ·rename_i hd
    obtain ⟨_,g2,g3,g4⟩:=diskB_small hd
    have:=lockK_len Y.notes (fun n hn=>(noteB_small (g4 n hn)).2.1) Y.notes.length
    omega
   ·simp
  omega
 simp [hmk,hnk,htx,h4,h5,hpre]
 intro _ _
 refine ⟨fun x=>x.1=Y.notes/\x.2.1=Y.safe/\x.2.2.1=V.notes/\x.2.2.2.1=V.safe/\x.2.2.2.2.1=lockD Y/\x.2.2.2.2.2.1=lockD V/\x.2.2.2.2.2.2<=(lockD Y).length,⟨rfl,rfl,rfl,rfl,rfl,rfl,Nat.zero_le _⟩,fun x=>(lockD Y).length-x.2.2.2.2.2.2,fun a b1 c1 d1 e1 f1 k hq=>?_⟩
 obtain ⟨q1,q2,q3,q4,q5,q6,q7⟩:=hq
 simp only at q1 q2 q3 q4 q5 q6 q7
 subst q1 q2 q3 q4 q5 q6
 refine ⟨fun hlt=>⟨hlt,?_,fun x _ _=>⟨k+1,wrapN (by omega),⟨rfl,rfl,rfl,rfl,rfl,rfl,by simp only;omega⟩,by simp only;omega⟩⟩,fun _=>⟨fun _=>a5,a4⟩⟩
 rw [List.getElem?_eq_getElem hlt,Option.getD_some]
 exact ⟨_,a3 _ (List.getElem_mem hlt),eqB_self _⟩
end Go.Proofs.AI
