/- What the function of this law does, in data. Conditions: none. -/
import Derived.KernelRfl
import Derived.IntWalk
import Derived.Test.YthahcnabgjgpfabGreatDoorProg
import Derived.Test.YthahcnabgjgpfabGreatDoorK05
namespace Go.Proofs.AI
open Go.RowKit Go.Proofs
set_option linter.unusedVariables false
set_option linter.unusedSimpArgs false
set_option maxRecDepth 100000
abbrev i_8:Int:=8
abbrev y_26:Type:=List Int×Nat×Int×Int×Int×Int
abbrev y_27:Type:=List Int×Nat×Int×Int×Int×Int×Int×Int×Int×Int×Int×Int×Int
abbrev y_34:Type:=List Note×Int×List FTx×List Note×Int×List FTx×Nat
end Go.Proofs.AI
namespace Go.Proofs.AI
set_option linter.unusedVariables false
set_option linter.unusedSimpArgs false
theorem ofN_app (ns:List Note) (n:Note) (tx:Int):ofN (ns++[n]) tx=if n.tx=tx/\n.kind≠4 then n.kind else ofN ns tx:=by
 simp only [ofN,List.foldl_append,List.foldl_cons,List.foldl_nil,ofS]
theorem disk_add {d:Disk} {n:Note} {s:Int} (hd:diskB d=true) (hn:noteB n=true) (hl:d.notes.length≠120) (hs:s=d.safe∨s=(d.notes.length:Int)+1):diskB ⟨d.notes++[n],s⟩=true:=by
 obtain ⟨_,g2,g3,g4⟩:=diskB_small hd
 simp only [diskB,List.length_append,List.length_singleton,Bool.and_eq_true,decide_eq_true_eq,List.all_append,List.all_cons,List.all_nil,Bool.and_true,hn,and_true]
 refine ⟨⟨by omega,?_⟩,List.all_eq_true.2 g4⟩
 simp only [inR,Bool.and_eq_true,decide_eq_true_eq]
 omega
end Go.Proofs.AI
namespace Go.Proofs.AI
set_option linter.unusedVariables false
set_option linter.unusedSimpArgs false
theorem okT_app {ns:List Note} {n:Note} {t:FTx} (h:okT ns t) (hn:n.kind=4∨n.tx≠t.tx):okT (ns++[n]) t:=by
 refine ⟨h.tx,h.can,h.know,?_,h.op⟩
 rw [h.yes,ofN_app,if_neg]
 rintro ⟨h1,h2⟩
 exact hn.elim h2 (fun h3=>h3 h1)
theorem okF.tx_ne {f:Front} (h:okF f) {i j:Nat} (hi:i<f.way.length) (hj:j<f.way.length) (hij:i≠j):(f.way.getD i dFTx).tx≠(f.way.getD j dFTx).tx:=by
 rcases Nat.lt_or_gt_of_ne hij with h1 | h1
 ·have:=pw_at h.ws h1 hj;omega
 ·have:=pw_at h.ws h1 hi;omega
theorem gone_ok {f:Front} (h:okF f) (k:Nat):okF (goneF f k):=by
 refine ⟨h.fd,?_,h.kd,h.ws.sublist (List.eraseIdx_sublist ..),fun t ht=>h.ok t (List.mem_of_mem_eraseIdx ht)⟩
 have:=h.wl
 simp only [goneF,List.length_eraseIdx]
 split<;>omega
theorem noF_ok {f:Front} (h:okF f) (k:Nat):okF (noF f k).1:=gone_ok h k
theorem set_pw {l:List FTx} (h:l.Pairwise fun a b=>a.tx<b.tx) {k:Nat} {t:FTx} (ht:t.tx=(l.getD k dFTx).tx):(l.set k t).Pairwise fun a b=>a.tx<b.tx:=by
 refine List.pairwise_iff_getElem.2 fun i j hi hj hij=>?_
 simp only [List.length_set] at hi hj
 have:=pw_at h hij hj
 rw [getD_lt hi,getD_lt hj] at this
 simp only [List.getElem_set]
 split
 ·rename_i e
  subst e
  rw [if_neg (by omega),ht,getD_lt hi];exact this
 ·split
  ·rename_i e
   subst e
   rw [ht,getD_lt hj];exact this
  ·exact this
theorem set_ok {f:Front} (h:okF f) {k:Nat} {t:FTx} {d:Disk} (hk:k<f.way.length) (hd:diskB d=true) (hkd:∀ n∈d.notes,n.kind=2∨n.kind=4) (ht:t.tx=(f.way.getD k dFTx).tx) (hok:okT d.notes t)
  (ho:∀ u∈f.way,u.tx≠t.tx->okT d.notes u):okF ⟨d,f.way.set k t⟩:=by
 refine ⟨hd,by simpa using h.wl,hkd,set_pw h.ws ht,fun u hu=>?_⟩
 obtain ⟨i,hi,rfl⟩:=List.getElem_of_mem hu
 simp only [List.getElem_set]
 split
 ·exact hok
 ·rename_i hne
  have hi:i<f.way.length:=by simpa using hi
  refine ho _ (List.getElem_mem _) ?_
  have:=h.tx_ne hi hk (fun e=>hne e.symm)
  rw [getD_lt hi] at this
  rw [ht];exact this
theorem setT_ok {f:Front} (h:okF f) {k:Nat} {t:FTx} (hk:k<f.way.length) (ht:t.tx=(f.way.getD k dFTx).tx) (hok:okT f.disk.notes t):okF (setT f k t) :=
 set_ok h hk h.fd h.kd ht hok fun u hu _=>h.ok u hu
theorem addD_some {d:Disk} {n:Note} {s:Bool} (hd:diskB d=true) (hn:noteB n=true) (hs:(addD d n s).2=true):addD d n s=(⟨d.notes++[n],if s=true then (d.notes.length:Int)+1 else d.safe⟩,true)/\d.notes.length≠120:=by
 simp only [addD,hd,hn,Bool.and_self,if_true] at hs ⊢
 split at hs
 ·cases hs
 ·rename_i h
  exact ⟨by rw [if_neg h],h⟩
theorem can_ok {f:Front} (h:okF f) {k:Nat} {p:Int} (hk:k<f.way.length) (hp:1<=p/\p<=3) (hy:(f.way.getD k dFTx).yes=false):okF (canF f k p).1:=by
 have ht:=h.at_ hk
 have h1:okF (setT f k (canT (f.way.getD k dFTx) p)):=setT_ok h hk rfl ⟨ht.tx,putP_ris ht.can hp,ht.know,ht.yes,ht.op⟩
 simp only [canF]
 split
 ·exact h1
 ·split
  ·rename_i hs
   have hn:=note_yes (k:=2) (.inl rfl) ht.tx
   obtain ⟨e,hl⟩:=addD_some h.fd hn hs
   rw [e]
   refine set_ok h hk (disk_add h.fd hn hl (.inr (by simp))) (fun n hn=>?_) rfl ⟨ht.tx,putP_ris ht.can hp,ht.know,?_,fun hc=>by cases hc⟩ fun u hu hne=>okT_app (h.ok u hu) (.inr (fun e=>hne e.symm))
   ·rcases List.mem_append.1 hn with hn | hn
    ·exact h.kd n hn
    ·simp at hn;subst hn;exact .inl rfl
   ·show true=_
    rw [ofN_app,if_pos ⟨rfl,(by decide:(2:Int)≠4)⟩]<;>rfl
  ·exact noF_ok h1 k
theorem know_ok {f:Front} (h:okF f) {k:Nat} {p:Int} (hk:k<f.way.length) (hp:1<=p/\p<=3) (hy:(f.way.getD k dFTx).yes=true):okF (knowF f k p):=by
 have ht:=h.at_ hk
 have h1:okF (setT f k (knowT (f.way.getD k dFTx) p)):=setT_ok h hk rfl ⟨ht.tx,ht.can,putP_ris ht.know hp,ht.yes,fun hc=>by simp only [knowT] at hc;rw [hy] at hc;cases hc⟩
 simp only [knowF]
 split
 ·exact h1
 ·split
  ·rename_i hs
   have hn:=note_yes (k:=4) (.inr (.inr rfl)) ht.tx
   obtain ⟨e,hl⟩:=addD_some h.fd hn hs
   rw [e]
   refine ⟨disk_add h.fd hn hl (.inl (by simp)),?_,fun n hn=>?_,h.ws.sublist (List.eraseIdx_sublist ..),fun u hu=>okT_app (h.ok u (List.mem_of_mem_eraseIdx hu)) (.inl rfl)⟩
   ·have:=h.wl
    simp only [List.length_eraseIdx]
    split<;>omega
   ·rcases List.mem_append.1 hn with hn | hn
    ·exact h.kd n hn
    ·simp at hn;subst hn;exact .inr rfl
  ·exact h1
inductive FroC (f:Front) (m:Msg):Prop
 | know (k:Nat):m.kind=6->k<f.way.length->(f.way.getD k dFTx).tx=m.tx->(f.way.getD k dFTx).yes=true->atF f.way m.tx=k->hearF f m=(knowF f k m.frm,[],[])->FroC f m
 | can (k:Nat):m.kind=4->k<f.way.length->(f.way.getD k dFTx).tx=m.tx->(f.way.getD k dFTx).yes=false->atF f.way m.tx=k->hearF f m=canF f k m.frm->FroC f m
 | cant (k:Nat):m.kind=5->k<f.way.length->(f.way.getD k dFTx).tx=m.tx->(f.way.getD k dFTx).yes=false->atF f.way m.tx=k->hearF f m=noF f k->FroC f m
 | what:(m.kind=4∨m.kind=7)->(m.kind=4->∀ k,k<f.way.length->(f.way.getD k dFTx).tx=m.tx->(f.way.getD k dFTx).yes=true)->hearF f m=(f,whatF f m,[])->FroC f m
 | vain:m.kind≠4->m.kind≠7->(m.kind=6->∀ k,k<f.way.length->(f.way.getD k dFTx).tx=m.tx->(f.way.getD k dFTx).yes=false)->(m.kind=5->∀ k,k<f.way.length->(f.way.getD k dFTx).tx=m.tx->(f.way.getD k dFTx).yes=true)->hearF f m=(f,[],[])->FroC f m
theorem fro_cases {f:Front} (h:okF f) (m:Msg):FroC f m:=by
 have hat:=atF_lt (w:=f.way) (tx:=m.tx)
 have huni:∀ k,k<f.way.length->(f.way.getD k dFTx).tx=m.tx->atF f.way m.tx=(k:Int):=fun k hk e=>e▸h.at_eq hk
 by_cases c1:m.kind=6/\0<=atF f.way m.tx/\yesAt f (atF f.way m.tx)=true
 ·obtain ⟨a1,a2,a3⟩:=c1
  exact .know _ a1 (hat a2).1 (hat a2).2 a3 (by omega) (by simp only [hearF,if_pos (⟨a1,a2,a3⟩:m.kind=6/\0<=atF f.way m.tx/\yesAt f (atF f.way m.tx)=true)])
 by_cases c2:m.kind=4/\0<=atF f.way m.tx/\yesAt f (atF f.way m.tx)=false
 ·obtain ⟨a1,a2,a3⟩:=c2
  exact .can _ a1 (hat a2).1 (hat a2).2 a3 (by omega) (by simp only [hearF,if_neg c1,if_pos (⟨a1,a2,a3⟩:m.kind=4/\0<=atF f.way m.tx/\yesAt f (atF f.way m.tx)=false)])
 by_cases c3:m.kind=5/\0<=atF f.way m.tx/\yesAt f (atF f.way m.tx)=false
 ·obtain ⟨a1,a2,a3⟩:=c3
  exact .cant _ a1 (hat a2).1 (hat a2).2 a3 (by omega) (by simp only [hearF,if_neg c1,if_neg c2,if_pos (⟨a1,a2,a3⟩:m.kind=5/\0<=atF f.way m.tx/\yesAt f (atF f.way m.tx)=false)])
 by_cases c4:m.kind=4∨m.kind=7
 ·refine .what c4 (fun a1 k hk e=>?_) (by simp only [hearF,if_neg c1,if_neg c2,if_neg c3,if_pos c4])
  have he:=huni k hk e
  rw [he] at c2
  rcases Bool.eq_false_or_eq_true (f.way.getD k dFTx).yes with hy | hy
  ·exact hy
  ·exact absurd ⟨a1,by omega,by simpa [yesAt] using hy⟩ c2
 ·refine .vain (fun e=>c4 (.inl e)) (fun e=>c4 (.inr e)) (fun a1 k hk e=>?_) (fun a1 k hk e=>?_) (by simp only [hearF,if_neg c1,if_neg c2,if_neg c3,if_neg c4])
  ·have he:=huni k hk e
   rw [he] at c1
   rcases Bool.eq_false_or_eq_true (f.way.getD k dFTx).yes with hy | hy
   ·exact absurd ⟨a1,by omega,by simpa [yesAt] using hy⟩ c1
   ·exact hy
  ·have he:=huni k hk e
   rw [he] at c3
   rcases Bool.eq_false_or_eq_true (f.way.getD k dFTx).yes with hy | hy
   ·exact hy
   ·exact absurd ⟨a1,by omega,by simpa [yesAt] using hy⟩ c3
theorem hear_ok {f:Front} (h:okF f) {m:Msg} (hm:1<=m.frm/\m.frm<=3):okF (hearF f m).1:=by
 cases fro_cases h m with
 | know k a1 a2 a3 a4 a5 e=>rw [e];exact know_ok h a2 hm a4
 | can k a1 a2 a3 a4 a5 e=>rw [e];exact can_ok h a2 hm a4
 | cant k a1 a2 a3 a4 a5 e=>rw [e];exact noF_ok h k
 | what a1 a2 e=>rw [e];exact h
 | vain a1 a2 a3 a4 e=>rw [e];exact h
end Go.Proofs.AI
namespace Go.Proofs.AI
open Go.RowKit Go.Proofs
set_option linter.unusedVariables false
set_option linter.unusedSimpArgs false
set_option maxRecDepth 100000
theorem impl_DiskOf_ok (d:Disk) (tx:Int):FunOK Tryz.prog 29 2 [] [(0,kDiskS d),(1,kI tx)] (·=[(2,kI (if diskB d=true then ofN d.notes tx else 0))]):=by
 refine fun_to (E:=⟨tab,ctOf [impl_DiskOk_c,impl_of_c],11,[],[(0,[1,2]),(1,[1,2,7]),(2,[4]),(3,[4])],[],[],[],[]⟩) tab_ok mixed Tryz.func29 rfl Tryz.ntmps29 (rvs:=[.tmp 4]) Tryz.results29 rfl fun hl=>?_
 refine cast (show (∃ (b:Disk),(q_e d.notes b.notes/\d.safe=b.safe)/\((!diskB b)=true->i_0=if diskB d=true then ofN d.notes tx else i_0)/\((!diskB b)=false->∃ (b:Disk×Int),((q_e d.notes b.1.notes/\d.safe=b.1.safe)/\tx=b.2)/\ofN b.1.notes b.2=if diskB d=true then ofN d.notes tx else i_0))=_ by kernel_rfl) ?_
 delta i_0 t_e q_e
 simp only [zza,zzb,true_and,and_true,and_self,ne_eq,cI_app,cWrtO_app,cWrtS_app,cWrtO_1,cItemO_1,opr_ex,zcast,frz_nil,nil_map,Option.getD_none,Option.getD_some]
 refine ⟨fun h=>?_,fun h=>?_⟩
 ·have h:diskB d=false:=by simpa only [Bool.not_eq_true'] using h
  rw [if_neg (by rw [h];decide)]
 ·have h:diskB d=true:=by simpa only [Bool.not_eq_false'] using h
  rw [if_pos h]
def impl_DiskOf_c:Con Tryz.prog:=con0 [.lend,.lend] fun b:Disk×Int=>impl_DiskOf_ok (b.1) (b.2)
end Go.Proofs.AI
namespace Go.Proofs.AI
open Go.RowKit Go.Proofs
set_option linter.unusedVariables false
set_option linter.unusedSimpArgs false
set_option maxRecDepth 100000
abbrev msgK (l:List Int) (p:Nat):Int:=1+pickB l p 7
def msg0 (l:List Int) (p:Nat):Msg×Nat :=
 let to:=if msgK l p<=3 then 1+pickB l (p+2) 3 else 0
 let frm:=if msgK l p<=3 then 0 else 1+pickB l (p+2) 3
 if msgK l p=1 then (⟨msgK l p,to,frm,pickB l (p+1) 6,(opB l (p+3) 0).1⟩,(opB l (p+3) 0).2) else (⟨msgK l p,to,frm,pickB l (p+1) 6,dOpr⟩,p+3)
def msgBent (l:List Int) (p:Nat) (m:Msg):Msg×Nat :=
 let k:=pickB l p 5
 if k=0 then (⟨[0,8].getD (pickB l (p+1) 2).toNat 0,m.to,m.frm,m.tx,m.op⟩,p+2)
 else if k=1 then (⟨m.kind,[-1,4,0,1].getD (pickB l (p+1) 4).toNat 0,m.frm,m.tx,m.op⟩,p+2)
 else if k=2 then (⟨m.kind,m.to,[-1,4,0,1].getD (pickB l (p+1) 4).toNat 0,m.tx,m.op⟩,p+2)
 else if k=3 then (⟨m.kind,m.to,m.frm,[-1,30].getD (pickB l (p+1) 2).toNat 0,m.op⟩,p+2)
 else (⟨m.kind,m.to,m.frm,m.tx,(opB l (p+1) 1).1⟩,(opB l (p+1) 1).2)
def msgD (l:List Int) (p:Nat) (n:Int):Msg×Nat :=
 let a:=msg0 l p
 let q:=oddB l a.2 n
 if q.1=true then msgBent l q.2 a.1 else (a.1,q.2)
theorem msg0_le {l:List Int} {p:Nat} (h:rdB l p 20):(msg0 l p).2<=p+11:=by
 have:=op_le (l:=l) (p:=p+3) 0 (rdB_le h (by omega))
 simp only [msg0]
 split<;>simp only<;>omega
theorem spec_l20Msg_ok (l:List Int) (p:Nat) (n:Int) (hpre:rdB l p 40/\n<1000000):FunOK Tryz.prog 73 2 [0] [(0,kRd l p),(1,kI n)] (·=[(2,kMsg (msgD l p n).1),(0,kRd l (msgD l p n).2)]):=by
 refine fun_to (E:=⟨tab,ctOf [spec_rd_pick_c,spec_l20Op_c,spec_rd_odd_c],70,[0],[(0,[0,1,4]),(1,[0,1,4,5]),(2,[0,1,4,5,14]),(3,[0,1,4,5]),(4,[0,1,4,5]),(5,[0,1,4,5,25]),(6,[0,1,4,5]),(7,[0,4,5,31]),(8,[0,4,5,33]),(9,[0,4,5]),(10,[0,4,5,33,37]),(11,[0,4,5]),(12,[0,4,5,33,45]),(13,[0,4,5]),(14,[0,4,5,33,53]),(15,[0,4,5]),(16,[0,4,5,61]),(17,[0,4,5]),(18,[0,4])],[],[],[(30002,⟨List Int×Nat×Int×Int×Int×Int,fun x=>[(0,⟨.box,[.c (sU (x.1)),.c (.n .i64 (x.2.1:Int))],[]⟩),(1,(k1 (.n .i64 n))),(4,⟨.box,[.c (.n .i64 ((0:Int))),.c (.n .i64 ((0:Int))),.c (.n .i64 ((0:Int))),.c (.n .i64 ((0:Int))),.c (.n .i64 ((0:Int))),.c (.n .i64 ((0:Int))),.c (.n .i64 ((0:Int))),.c (.n .i64 ((0:Int))),.c (.n .i64 ((0:Int))),.c (.n .i64 ((0:Int))),.c (.n .i64 ((0:Int)))],[]⟩),(5,⟨.box,[.c (.n .i64 (x.2.2.1)),.c (.n .i64 (x.2.2.2.1)),.c (.n .i64 (x.2.2.2.2.1)),.c (.n .i64 (x.2.2.2.2.2)),.c (.n .i64 ((0:Int))),.c (.n .i64 ((0:Int))),.c (.n .i64 ((0:Int))),.c (.n .i64 ((0:Int))),.c (.n .i64 ((0:Int))),.c (.n .i64 ((0:Int))),.c (.n .i64 ((0:Int)))],[]⟩)]⟩),(30005,⟨List Int×Nat×Int×Int×Int×Int×Int×Int×Int×Int×Int×Int×Int,fun x=>[(0,⟨.box,[.c (sU (x.1)),.c (.n .i64 (x.2.1:Int))],[]⟩),(1,(k1 (.n .i64 n))),(4,⟨.box,[.c (.n .i64 ((0:Int))),.c (.n .i64 ((0:Int))),.c (.n .i64 ((0:Int))),.c (.n .i64 ((0:Int))),.c (.n .i64 ((0:Int))),.c (.n .i64 ((0:Int))),.c (.n .i64 ((0:Int))),.c (.n .i64 ((0:Int))),.c (.n .i64 ((0:Int))),.c (.n .i64 ((0:Int))),.c (.n .i64 ((0:Int)))],[]⟩),(5,⟨.box,[.c (.n .i64 (x.2.2.1)),.c (.n .i64 (x.2.2.2.1)),.c (.n .i64 (x.2.2.2.2.1)),.c (.n .i64 (x.2.2.2.2.2.1)),.c (.n .i64 (x.2.2.2.2.2.2.1)),.c (.n .i64 (x.2.2.2.2.2.2.2.1)),.c (.n .i64 (x.2.2.2.2.2.2.2.2.1)),.c (.n .i64 (x.2.2.2.2.2.2.2.2.2.1)),.c (.n .i64 (x.2.2.2.2.2.2.2.2.2.2.1)),.c (.n .i64 (x.2.2.2.2.2.2.2.2.2.2.2.1)),.c (.n .i64 (x.2.2.2.2.2.2.2.2.2.2.2.2))],[]⟩)]⟩)],[]⟩) tab_ok mixed Tryz.func73 rfl Tryz.ntmps73 (rvs:=[.cell 4 46]) Tryz.results73 rfl fun hl=>?_
 refine cast (show (let k_2:Prop:=i_0=i_0/\i_0=i_0/\i_0=i_0/\i_0=i_0/\i_0=i_0/\i_0=i_0/\i_0=i_0;let k_1:Prop:=i_0=i_0/\i_0=i_0/\i_0=i_0/\i_0=i_0/\k_2;∃ (b:y_6),((q_U l b.1/\zi p=zi b.2.1)/\i_7=b.2.2)/\rdB b.1 b.2.1 n_1/\(∃ (b_1:y_6),((q_U b.1 b_1.1/\(zi (b.2.1+n_1))=zi b_1.2.1)/\i_6=b_1.2.2)/\rdB b_1.1 b_1.2.1 n_1/\(∃ (post:y_26->Prop),((decide (wr_ (i_1+pickB b.1 b.2.1 b.2.2)<=i_3)=true->∃ (b_2:y_6),((q_U b_1.1 b_2.1/\(zi (b_1.2.1+n_1))=zi b_2.2.1)/\i_3=b_2.2.2)/\rdB b_2.1 b_2.2.1 n_1/\(∃ (x:y_26),((q_U b_2.1 x.1/\(zi (b_2.2.1+n_1))=zi x.2.1)/\n=n/\k_1/\wr_ (i_1+pickB b.1 b.2.1 b.2.2)=x.2.2.1/\wr_ (i_1+pickB b_2.1 b_2.2.1 b_2.2.2)=x.2.2.2.1/\i_0=x.2.2.2.2.1/\pickB b_1.1 b_1.2.1 b_1.2.2=x.2.2.2.2.2/\k_2)/\post x))/\(decide (wr_ (i_1+pickB b.1 b.2.1 b.2.2)<=i_3)=false->∃ (b_2:y_6),((q_U b_1.1 b_2.1/\(zi (b_1.2.1+n_1))=zi b_2.2.1)/\i_3=b_2.2.2)/\rdB b_2.1 b_2.2.1 n_1/\(∃ (x:y_26),((q_U b_2.1 x.1/\(zi (b_2.2.1+n_1))=zi x.2.1)/\n=n/\k_1/\wr_ (i_1+pickB b.1 b.2.1 b.2.2)=x.2.2.1/\i_0=x.2.2.2.1/\wr_ (i_1+pickB b_2.1 b_2.2.1 b_2.2.2)=x.2.2.2.2.1/\pickB b_1.1 b_1.2.1 b_1.2.2=x.2.2.2.2.2/\k_2)/\post x)))/\(∀ (x:y_26),post x->∃ (post:y_27->Prop),(((x.2.2.1==i_1)=true->∃ (b:y_6),((q_U x.1 b.1/\zi x.2.1=zi b.2.1)/\i_0=b.2.2)/\(rdB b.1 b.2.1 n_8/\b.2.2<i_1000000)/\(∃ (x_1:y_27),((q_U b.1 x_1.1/\(zi (opB b.1 b.2.1 b.2.2).2)=zi x_1.2.1)/\n=n/\k_1/\x.2.2.1=x_1.2.2.1/\x.2.2.2.1=x_1.2.2.2.1/\x.2.2.2.2.1=x_1.2.2.2.2.1/\x.2.2.2.2.2=x_1.2.2.2.2.2.1/\(opB b.1 b.2.1 b.2.2).1.kind=x_1.2.2.2.2.2.2.1/\(opB b.1 b.2.1 b.2.2).1.who=x_1.2.2.2.2.2.2.2.1/\(opB b.1 b.2.1 b.2.2).1.inn=x_1.2.2.2.2.2.2.2.2.1/\(opB b.1 b.2.1 b.2.2).1.code=x_1.2.2.2.2.2.2.2.2.2.1/\(opB b.1 b.2.1 b.2.2).1.sec=x_1.2.2.2.2.2.2.2.2.2.2.1/\(opB b.1 b.2.1 b.2.2).1.fam=x_1.2.2.2.2.2.2.2.2.2.2.2.1/\(opB b.1 b.2.1 b.2.2).1.gen=x_1.2.2.2.2.2.2.2.2.2.2.2.2)/\post x_1))/\((x.2.2.1==i_1)=false->∃ (x_1:y_27),((q_U x.1 x_1.1/\zi x.2.1=zi x_1.2.1)/\n=n/\k_1/\x.2.2.1=x_1.2.2.1/\x.2.2.2.1=x_1.2.2.2.1/\x.2.2.2.2.1=x_1.2.2.2.2.1/\x.2.2.2.2.2=x_1.2.2.2.2.2.1/\i_0=x_1.2.2.2.2.2.2.1/\i_0=x_1.2.2.2.2.2.2.2.1/\i_0=x_1.2.2.2.2.2.2.2.2.1/\i_0=x_1.2.2.2.2.2.2.2.2.2.1/\i_0=x_1.2.2.2.2.2.2.2.2.2.2.1/\i_0=x_1.2.2.2.2.2.2.2.2.2.2.2.1/\i_0=x_1.2.2.2.2.2.2.2.2.2.2.2.2)/\post x_1))/\(∀ (x:y_27),let k_9:Prop:=x.2.2.1=(msgD l p n).1.kind;let k_8:Prop:=x.2.2.2.1=(msgD l p n).1.to;let k_7:Prop:=x.2.2.2.2.1=(msgD l p n).1.frm;let k_6:Prop:=x.2.2.2.2.2.2.1=(msgD l p n).1.op.kind/\x.2.2.2.2.2.2.2.1=(msgD l p n).1.op.who/\x.2.2.2.2.2.2.2.2.1=(msgD l p n).1.op.inn/\x.2.2.2.2.2.2.2.2.2.1=(msgD l p n).1.op.code/\x.2.2.2.2.2.2.2.2.2.2.1=(msgD l p n).1.op.sec/\x.2.2.2.2.2.2.2.2.2.2.2.1=(msgD l p n).1.op.fam/\x.2.2.2.2.2.2.2.2.2.2.2.2=(msgD l p n).1.op.gen;let k_5:Prop:=x.2.2.2.2.2.1=(msgD l p n).1.tx/\k_6;let k_4:Prop:=k_7/\k_5;let k_3:Prop:=k_8/\k_4;post x->∃ (b:y_6),((q_U x.1 b.1/\zi x.2.1=zi b.2.1)/\n=b.2.2)/\(rdB b.1 b.2.1 n_1/\b.2.2<i_1000000)/\((oddB b.1 b.2.1 b.2.2).1=true->∃ (b_2:y_6),((q_U b.1 b_2.1/\(zi (oddB b.1 b.2.1 b.2.2).2)=zi b_2.2.1)/\i_5=b_2.2.2)/\rdB b_2.1 b_2.2.1 n_1/\((pickB b_2.1 b_2.2.1 b_2.2.2==i_0)=true->∃ (b:y_6),((q_U b_2.1 b.1/\(zi (b_2.2.1+n_1))=zi b.2.1)/\i_2=b.2.2)/\rdB b.1 b.2.1 n_1/\(i_0<=pickB b.1 b.2.1 b.2.2/\pickB b.1 b.2.1 b.2.2<zi n_2)/\(pickB b.1 b.2.1 b.2.2).toNat<n_2/\([i_0,i_8].getD (pickB b.1 b.2.1 b.2.2).toNat i_0=(msgD l p n).1.kind/\k_3)/\q_U b.1 l/\(zi (b.2.1+n_1))=(zi (msgD l p n).2))/\((pickB b_2.1 b_2.2.1 b_2.2.2==i_0)=false->((pickB b_2.1 b_2.2.1 b_2.2.2==i_1)=true->∃ (b:y_6),((q_U b_2.1 b.1/\(zi (b_2.2.1+n_1))=zi b.2.1)/\i_4=b.2.2)/\rdB b.1 b.2.1 n_1/\(i_0<=pickB b.1 b.2.1 b.2.2/\pickB b.1 b.2.1 b.2.2<zi n_4)/\(pickB b.1 b.2.1 b.2.2).toNat<n_4/\(k_9/\[(-1:Int),i_4,i_0,i_1].getD (pickB b.1 b.2.1 b.2.2).toNat i_0=(msgD l p n).1.to/\k_4)/\q_U b.1 l/\(zi (b.2.1+n_1))=(zi (msgD l p n).2))/\((pickB b_2.1 b_2.2.1 b_2.2.2==i_1)=false->((pickB b_2.1 b_2.2.1 b_2.2.2==i_2)=true->∃ (b:y_6),((q_U b_2.1 b.1/\(zi (b_2.2.1+n_1))=zi b.2.1)/\i_4=b.2.2)/\rdB b.1 b.2.1 n_1/\(i_0<=pickB b.1 b.2.1 b.2.2/\pickB b.1 b.2.1 b.2.2<zi n_4)/\(pickB b.1 b.2.1 b.2.2).toNat<n_4/\(k_9/\k_8/\[(-1:Int),i_4,i_0,i_1].getD (pickB b.1 b.2.1 b.2.2).toNat i_0=(msgD l p n).1.frm/\k_5)/\q_U b.1 l/\(zi (b.2.1+n_1))=(zi (msgD l p n).2))/\((pickB b_2.1 b_2.2.1 b_2.2.2==i_2)=false->((pickB b_2.1 b_2.2.1 b_2.2.2==i_3)=true->∃ (b:y_6),((q_U b_2.1 b.1/\(zi (b_2.2.1+n_1))=zi b.2.1)/\i_2=b.2.2)/\rdB b.1 b.2.1 n_1/\(i_0<=pickB b.1 b.2.1 b.2.2/\pickB b.1 b.2.1 b.2.2<zi n_2)/\(pickB b.1 b.2.1 b.2.2).toNat<n_2/\(k_9/\k_8/\k_7/\[(-1:Int),i_30].getD (pickB b.1 b.2.1 b.2.2).toNat i_0=(msgD l p n).1.tx/\k_6)/\q_U b.1 l/\(zi (b.2.1+n_1))=(zi (msgD l p n).2))/\((pickB b_2.1 b_2.2.1 b_2.2.2==i_3)=false->∃ (b:y_6),((q_U b_2.1 b.1/\(zi (b_2.2.1+n_1))=zi b.2.1)/\i_1=b.2.2)/\(rdB b.1 b.2.1 n_8/\b.2.2<i_1000000)/\(k_9/\k_8/\k_7/\x.2.2.2.2.2.1=(msgD l p n).1.tx/\(opB b.1 b.2.1 b.2.2).1.kind=(msgD l p n).1.op.kind/\(opB b.1 b.2.1 b.2.2).1.who=(msgD l p n).1.op.who/\(opB b.1 b.2.1 b.2.2).1.inn=(msgD l p n).1.op.inn/\(opB b.1 b.2.1 b.2.2).1.code=(msgD l p n).1.op.code/\(opB b.1 b.2.1 b.2.2).1.sec=(msgD l p n).1.op.sec/\(opB b.1 b.2.1 b.2.2).1.fam=(msgD l p n).1.op.fam/\(opB b.1 b.2.1 b.2.2).1.gen=(msgD l p n).1.op.gen)/\q_U b.1 l/\(zi (opB b.1 b.2.1 b.2.2).2)=(zi (msgD l p n).2))))))/\((oddB b.1 b.2.1 b.2.2).1=false->(k_9/\k_3)/\q_U b.1 l/\(zi (oddB b.1 b.2.1 b.2.2).2)=(zi (msgD l p n).2)))))))=_ by kernel_rfl) ?_
 delta i_0 i_1 i_5 i_2 i_3 i_4 wr_ zi n_8 n_1 n_2 i_1000000 t_U q_U i_7 y_6 i_6 n_4 i_30 i_8 y_26 y_27
 have hp:=hpre.1
 have b7:=pick_lt (l:=l) (p:=p) (n:=7) (rdB_le hp (by omega):rdB l p 1) (by omega)
 have b3:=pick_lt (l:=l) (p:=p+2) (n:=3) (rdB_le hp (by omega):rdB l (p+2) 1) (by omega)
 have hm:=msg0_le (l:=l) (p:=p) (rdB_le hp (by omega))
 have e1:IntKind.i64.wrap (1+pickB l p 7)=1+pickB l p 7:=IntWalk.i64_in _ (by omega)
 have e2:IntKind.i64.wrap (1+pickB l (p+2) 3)=1+pickB l (p+2) 3:=IntWalk.i64_in _ (by omega)
 simp only [zza,zzb,true_and,and_true,and_self,ne_eq,cI_app,cWrtO_app,cWrtS_app,cWrtO_1,cItemO_1,opr_ex,zcast,frz_nil,nil_map,Option.getD_none,Option.getD_some]
 simp only [Nat.add_assoc,Nat.reduceAdd,e1,e2]
 refine ⟨rdB_le hp (by omega),rdB_le hp (by omega),fun z=>z=(l,p+3,msgK l p,(if msgK l p<=3 then 1+pickB l (p+2) 3 else 0),(if msgK l p<=3 then 0 else 1+pickB l (p+2) 3),pickB l (p+1) 6),fun h=>⟨rdB_le hp (by omega),by simp only [if_pos h]⟩,fun h=>⟨rdB_le hp (by omega),by simp only [if_neg h]⟩,?_⟩
 intro a q k to frm tx hz
 simp only [Prod.mk.injEq] at hz
 obtain ⟨h1,h2,h3,h4,h5,h6⟩:=hz
 subst h1 h2 h3 h4 h5 h6
 refine ⟨fun z=>z=(a,(msg0 a p).2,(msg0 a p).1.kind,(msg0 a p).1.to,(msg0 a p).1.frm,(msg0 a p).1.tx,(msg0 a p).1.op.kind,(msg0 a p).1.op.who,(msg0 a p).1.op.inn,(msg0 a p).1.op.code,(msg0 a p).1.op.sec,(msg0 a p).1.op.fam,(msg0 a p).1.op.gen),fun h=>⟨rdB_le hp (by omega),by omega,by simp only [msg0,if_pos h]⟩,fun h=>by simp only [msg0,if_neg h];rfl,?_⟩
 intro l q a0 a1 a2 a3 a4 a5 a6 a7 a8 a9 a10 hz
 simp only [Prod.mk.injEq] at hz
 obtain ⟨h0,h1,h2,h3,h4,h5,h6,h7,h8,h9,h10,h11,h12⟩:=hz
 subst h0 h1 h2 h3 h4 h5 h6 h7 h8 h9 h10 h11 h12
 have ho:=odd_le l (msg0 l p).2 n
 have hd:msgD l p n=if (oddB l (msg0 l p).2 n).1=true then msgBent l (oddB l (msg0 l p).2 n).2 (msg0 l p).1 else ((msg0 l p).1,(oddB l (msg0 l p).2 n).2):=rfl
 rw [hd]
 generalize msg0 l p=A at *
 generalize oddB l A.2 n=Q at *
 have b2:=pick_lt (l:=l) (p:=Q.2+1) (n:=2) (rdB_le hp (by omega):rdB l (Q.2+1) 1) (by omega)
 have b4:=pick_lt (l:=l) (p:=Q.2+1) (n:=4) (rdB_le hp (by omega):rdB l (Q.2+1) 1) (by omega)
 refine ⟨rdB_le hp (by omega),hpre.2,fun hq=>⟨rdB_le hp (by omega),?_⟩,fun hq=>?_⟩
 ·rw [if_pos hq]
  refine ⟨fun h0=>⟨rdB_le hp (by omega),b2.1,b2.2,by omega,?_⟩,fun h0=>⟨fun h1=>⟨rdB_le hp (by omega),b4.1,b4.2,by omega,?_⟩,fun h1=>⟨fun h2=>⟨rdB_le hp (by omega),b4.1,b4.2,by omega,?_⟩,fun h2=>⟨fun h3=>⟨rdB_le hp (by omega),b2.1,b2.2,by omega,?_⟩,fun h3=>⟨rdB_le hp (by omega),by omega,?_⟩⟩⟩⟩⟩
  ·simp [msgBent,h0]
  ·simp [msgBent,h1]
  ·simp [msgBent,h2]
  ·simp [msgBent,h3]
  ·simp [msgBent,h0,h1,h2,h3]
 ·rw [hq]
  simp
def spec_l20Msg_c:Con Tryz.prog:=conP [.ptr,.lend] fun (b:List Int×Nat×Int) h=>spec_l20Msg_ok (b.1) (b.2.1) (b.2.2) h
end Go.Proofs.AI
namespace Go.Proofs.AI
set_option linter.unusedVariables false
set_option linter.unusedSimpArgs false
theorem to_front {m:Msg} (h:msgB m=true) (h0:m.to=0):(4<=m.kind/\m.kind<=7)/\(1<=m.frm/\m.frm<=3)/\0<=m.tx/\m.tx<=29:=by
 simp only [msgB,h0] at h
 split at h
 ·simp [inR] at h
 ·split at h
  ·simp [inR] at h
  ·simp [inR] at h;omega
theorem hear_len {f:Front} (h:okF f) {m:Msg}:(hearF f m).1.disk.notes.length<=f.disk.notes.length+1:=by
 have hadd:∀ n s,(addD f.disk n s).2=true->(addD f.disk n s).1.notes.length<=f.disk.notes.length+1:=fun n s=>by
  simp only [addD]
  repeat' split
  all_goals simp
 cases fro_cases h m with
 | know k a1 a2 a3 a4 a5 e =>
  rw [e];simp only [knowF]
  repeat' split
  all_goals first | exact hadd _ _ (by assumption) | simp [setT]
 | can k a1 a2 a3 a4 a5 e =>
  rw [e];simp only [canF]
  repeat' split
  all_goals first | exact hadd _ _ (by assumption) | simp [setT,noF,goneF]
 | cant k a1 a2 a3 a4 a5 e=>rw [e];simp [noF,goneF]
 | what a1 a2 e=>rw [e];simp
 | vain a1 a2 a3 a4 e=>rw [e];simp
def effT (m:Msg) (t:FTx):Option FTx :=
 if t.tx≠m.tx then some t else if m.kind=6/\t.yes=true then (if (putP t.know m.frm).length<3 then some (knowT t m.frm) else none)
 else if m.kind=4/\t.yes=false then (if 0<(lessP (placesL t.op) (putP t.can m.frm)).length then some (canT t m.frm) else some (yesT (canT t m.frm)))
 else if m.kind=5/\t.yes=false then none else some t
def effN (m:Msg) (t:FTx):List Note :=
 if t.tx≠m.tx then [] else if m.kind=6/\t.yes=true then (if (putP t.know m.frm).length<3 then [] else [⟨4,t.tx,[],[]⟩])
 else if m.kind=4/\t.yes=false then (if 0<(lessP (placesL t.op) (putP t.can m.frm)).length then [] else [⟨2,t.tx,[],[]⟩]) else []
theorem fm_id {w:List FTx} {e:FTx->Option FTx} (h:∀ i,i<w.length->e (w.getD i dFTx)=some (w.getD i dFTx)):w.filterMap e=w:=by
 induction w with
 | nil=>rfl
 | cons a w ih =>
  have h0:e a=some a:=h 0 (by simp)
  rw [List.filterMap_cons,h0]
  simp only
  rw [ih fun i hi=>h (i+1) (by simpa using hi)]
theorem fm_set {e:FTx->Option FTx}:∀ {w:List FTx} {k:Nat},k<w.length->(∀ i,i<w.length->i≠k->e (w.getD i dFTx)=some (w.getD i dFTx))->∀ {u:FTx},e (w.getD k dFTx)=some u->w.filterMap e=w.set k u:=by
 intro w
 induction w with
 | nil=>intro k hk;simp at hk
 | cons a w ih =>
  intro k hk h u hu
  rcases k with _ | k
  ·have hu:e a=some u:=hu
   rw [List.filterMap_cons,hu]
   simp only [List.set_cons_zero]
   rw [fm_id fun i hi=>h (i+1) (by simpa using hi) (by omega)]
  ·have h0:e a=some a:=h 0 (by simp) (by omega)
   rw [List.filterMap_cons,h0]
   simp only [List.set_cons_succ]
   rw [ih (by simpa using hk) (fun i hi hne=>h (i+1) (by simpa using hi) (by omega)) hu]
theorem fm_erase {e:FTx->Option FTx}:∀ {w:List FTx} {k:Nat},k<w.length->(∀ i,i<w.length->i≠k->e (w.getD i dFTx)=some (w.getD i dFTx))->e (w.getD k dFTx)=none->w.filterMap e=w.eraseIdx k:=by
 intro w
 induction w with
 | nil=>intro k hk;simp at hk
 | cons a w ih =>
  intro k hk h hu
  rcases k with _ | k
  ·have hu:e a=none:=hu
   rw [List.filterMap_cons,hu]
   simp only [List.eraseIdx_cons_zero]
   exact fm_id fun i hi=>h (i+1) (by simpa using hi) (by omega)
  ·have h0:e a=some a:=h 0 (by simp) (by omega)
   rw [List.filterMap_cons,h0]
   simp only [List.eraseIdx_cons_succ]
   rw [ih (by simpa using hk) (fun i hi hne=>h (i+1) (by simpa using hi) (by omega)) hu]
theorem fl_nil {w:List FTx} {g:FTx->List Note} (h:∀ i,i<w.length->g (w.getD i dFTx)=[]):w.flatMap g=[]:=by
 rw [List.flatMap_eq_nil_iff]
 intro t ht
 obtain ⟨i,hi,rfl⟩:=List.getElem_of_mem ht
 have:=h i hi
 rwa [getD_lt hi] at this
theorem fl_one {g:FTx->List Note}:∀ {w:List FTx} {k:Nat},k<w.length->(∀ i,i<w.length->i≠k->g (w.getD i dFTx)=[])->w.flatMap g=g (w.getD k dFTx):=by
 intro w
 induction w with
 | nil=>intro k hk;simp at hk
 | cons a w ih =>
  intro k hk h
  rcases k with _ | k
  ·rw [List.flatMap_cons,fl_nil fun i hi=>h (i+1) (by simpa using hi) (by omega),List.append_nil]<;>rfl
  ·have h0:g a=[]:=h 0 (by simp) (by omega)
   rw [List.flatMap_cons,h0,List.nil_append,ih (by simpa using hk) (fun i hi hne=>h (i+1) (by simpa using hi) (by omega))]<;>rfl
theorem effT_off {m:Msg} {t:FTx} (h:t.tx≠m.tx):effT m t=some t:=by rw [effT,if_pos h]
theorem effN_off {m:Msg} {t:FTx} (h:t.tx≠m.tx):effN m t=[]:=by rw [effN,if_pos h]
theorem hear_eff {f:Front} (h:okF f) {m:Msg} (hm:1<=m.frm/\m.frm<=3) (hl:f.disk.notes.length≠120) :
  (hearF f m).1.way=f.way.filterMap (effT m)/\(hearF f m).1.disk.notes=f.disk.notes++f.way.flatMap (effN m):=by
 have offT:∀ k,k<f.way.length->(f.way.getD k dFTx).tx=m.tx->∀ i,i<f.way.length->i≠k->(f.way.getD i dFTx).tx≠m.tx:=fun k hk e i hi hne=>by
  rw [<- e];exact h.tx_ne hi hk hne
 have add:∀ (n:Note) (s:Bool),noteB n=true->addD f.disk n s=(⟨f.disk.notes++[n],if s=true then (f.disk.notes.length:Int)+1 else f.disk.safe⟩,true):=fun n s hn=>by
  simp only [addD,h.fd,hn,Bool.and_self,if_true];rw [if_neg hl]
 cases fro_cases h m with
 | know k a1 a2 a3 a4 a5 e =>
  have oT:=fun i hi hne=>effT_off (offT k a2 a3 i hi hne)
  have oN:=fun i hi hne=>effN_off (offT k a2 a3 i hi hne)
  have hn:=note_yes (k:=4) (.inr (.inr rfl)) (h.at_ a2).tx
  rw [e,fl_one a2 oN,effN,if_neg (fun hh=>hh a3),if_pos ⟨a1,a4⟩]
  simp only [knowF]
  by_cases hc:(putP (f.way.getD k dFTx).know m.frm).length<3
  ·rw [if_pos hc,if_pos hc,fm_set a2 oT (u:=knowT (f.way.getD k dFTx) m.frm) (by rw [effT,if_neg (fun hh=>hh a3),if_pos ⟨a1,a4⟩,if_pos hc])]
   exact ⟨rfl,by simp [setT]⟩
  ·rw [if_neg hc,if_neg hc,add _ _ hn,if_pos rfl,fm_erase a2 oT (by rw [effT,if_neg (fun hh=>hh a3),if_pos ⟨a1,a4⟩,if_neg hc])]
   exact ⟨rfl,rfl⟩
 | can k a1 a2 a3 a4 a5 e =>
  have oT:=fun i hi hne=>effT_off (offT k a2 a3 i hi hne)
  have oN:=fun i hi hne=>effN_off (offT k a2 a3 i hi hne)
  have hn:=note_yes (k:=2) (.inl rfl) (h.at_ a2).tx
  have n6:¬ (m.kind=6/\(f.way.getD k dFTx).yes=true):=fun hh=>by omega
  rw [e,fl_one a2 oN,effN,if_neg (fun hh=>hh a3),if_neg n6,if_pos ⟨a1,a4⟩]
  simp only [canF]
  by_cases hc:0<(lessP (placesL (f.way.getD k dFTx).op) (putP (f.way.getD k dFTx).can m.frm)).length
  ·rw [if_pos hc,if_pos hc,fm_set a2 oT (u:=canT (f.way.getD k dFTx) m.frm) (by rw [effT,if_neg (fun hh=>hh a3),if_neg n6,if_pos ⟨a1,a4⟩,if_pos hc])]
   exact ⟨rfl,by simp [setT]⟩
  ·rw [if_neg hc,if_neg hc,add _ _ hn,if_pos rfl,fm_set a2 oT (u:=yesT (canT (f.way.getD k dFTx) m.frm)) (by rw [effT,if_neg (fun hh=>hh a3),if_neg n6,if_pos ⟨a1,a4⟩,if_neg hc])]
   exact ⟨rfl,rfl⟩
 | cant k a1 a2 a3 a4 a5 e =>
  have oT:=fun i hi hne=>effT_off (offT k a2 a3 i hi hne)
  have oN:=fun i hi hne=>effN_off (offT k a2 a3 i hi hne)
  have n6:¬ (m.kind=6/\(f.way.getD k dFTx).yes=true):=fun hh=>by omega
  have n4:¬ (m.kind=4/\(f.way.getD k dFTx).yes=false):=fun hh=>by omega
  rw [e,fl_one a2 oN,effN,if_neg (fun hh=>hh a3),if_neg n6,if_neg n4,fm_erase a2 oT (by rw [effT,if_neg (fun hh=>hh a3),if_neg n6,if_neg n4,if_pos ⟨a1,a4⟩])]
  exact ⟨rfl,by simp [noF,goneF]⟩
 | what a1 a2 e =>
  have n6:¬ m.kind=6:=fun hh=>by omega
  have n5:¬ m.kind=5:=fun hh=>by omega
  have n4:∀ i,i<f.way.length->(f.way.getD i dFTx).tx=m.tx->¬ (m.kind=4/\(f.way.getD i dFTx).yes=false):=fun i hi ht hh=>by rw [a2 hh.1 i hi ht] at hh;cases hh.2
  rw [e,fm_id (w:=f.way) (e:=effT m) fun i hi=>?_,fl_nil (w:=f.way) (g:=effN m) fun i hi=>?_]
  ·simp
  ·by_cases ht:(f.way.getD i dFTx).tx=m.tx
   rotate_left
   ·exact effN_off ht
   rw [effN,if_neg (fun hh=>hh ht)]
   rw [if_neg (fun hh=>n6 hh.1),if_neg (n4 i hi ht)]
  ·by_cases ht:(f.way.getD i dFTx).tx=m.tx
   rotate_left
   ·exact effT_off ht
   rw [effT,if_neg (fun hh=>hh ht)]
   rw [if_neg (fun hh=>n6 hh.1),if_neg (n4 i hi ht),if_neg (fun hh=>n5 hh.1)]
 | vain a1 a2 a3 a4 e =>
  have n6:∀ i,i<f.way.length->(f.way.getD i dFTx).tx=m.tx->¬ (m.kind=6/\(f.way.getD i dFTx).yes=true):=fun i hi ht hh=>by rw [a3 hh.1 i hi ht] at hh;cases hh.2
  have n5:∀ i,i<f.way.length->(f.way.getD i dFTx).tx=m.tx->¬ (m.kind=5/\(f.way.getD i dFTx).yes=false):=fun i hi ht hh=>by rw [a4 hh.1 i hi ht] at hh;cases hh.2
  rw [e,fm_id (w:=f.way) (e:=effT m) fun i hi=>?_,fl_nil (w:=f.way) (g:=effN m) fun i hi=>?_]
  ·simp
  ·by_cases ht:(f.way.getD i dFTx).tx=m.tx
   rotate_left
   ·exact effN_off ht
   rw [effN,if_neg (fun hh=>hh ht)]
   rw [if_neg (n6 i hi ht),if_neg (fun hh=>a1 hh.1)]
  ·by_cases ht:(f.way.getD i dFTx).tx=m.tx
   rotate_left
   ·exact effT_off ht
   rw [effT,if_neg (fun hh=>hh ht)]
   rw [if_neg (n6 i hi ht),if_neg (fun hh=>a1 hh.1),if_neg (n5 i hi ht)]
theorem effT_tx {m:Msg} {t u:FTx} (h:effT m t=some u):u.tx=t.tx:=by
 simp only [effT] at h
 repeat' split at h
 all_goals first | cases h;rfl | cases h
theorem effN_tx {m:Msg} {t:FTx} {x:Note} (h:x∈effN m t):x.tx=m.tx:=by
 simp only [effN] at h
 repeat' split at h
 all_goals first | (simp at h;done) | (simp at h;subst h;simp_all)
theorem eff_comm {m n:Msg} (hne:m.tx≠n.tx) (t:FTx):(effT m t).bind (effT n)=(effT n t).bind (effT m):=by
 have key:∀ a b:Msg,t.tx≠a.tx->(effT a t).bind (effT b)=effT b t/\(effT b t).bind (effT a)=effT b t:=fun a b h=>by
  rw [effT_off h]
  refine ⟨rfl,?_⟩
  cases hb:effT b t with
  | none=>rfl
  | some u=>exact effT_off (by rw [effT_tx hb];exact h)
 by_cases h:t.tx=m.tx
 ·have:=key n m (by rw [h];exact hne)
  rw [this.1,this.2]
 ·have:=key m n h
  rw [this.1,this.2]
theorem fl_fm {m n:Msg} (hne:m.tx≠n.tx) (w:List FTx):(w.filterMap (effT m)).flatMap (effN n)=w.flatMap (effN n):=by
 induction w with
 | nil=>rfl
 | cons t w ih =>
  rw [List.filterMap_cons,List.flatMap_cons,<- ih]
  by_cases h:t.tx=m.tx
  ·rw [effN_off (m:=n) (t:=t) (by rw [h];exact hne),List.nil_append]
   cases hb:effT m t with
   | none=>rfl
   | some u =>
    simp only [List.flatMap_cons]
    rw [effN_off (m:=n) (t:=u) (by rw [effT_tx hb,h];exact hne),List.nil_append]
  ·rw [effT_off h];simp only [List.flatMap_cons]
theorem ofS_off {tx:Int} {A:List Note} (h:∀ x∈A,x.tx≠tx) (a:Int):A.foldl (ofS tx) a=a:=by
 induction A generalizing a with
 | nil=>rfl
 | cons x A ih =>
  rw [List.foldl_cons,ih (fun y hy=>h y (List.mem_cons_of_mem _ hy)),ofS,if_neg (fun hh=>h x (by simp) hh.1)]
theorem ofN_swap {ns A B:List Note} {tx:Int} (h:(∀ x∈A,x.tx≠tx)∨∀ x∈B,x.tx≠tx):ofN (ns++A++B) tx=ofN (ns++B++A) tx:=by
 simp only [ofN,List.foldl_append]
 rcases h with h | h
 ·rw [ofS_off h,ofS_off h]
 ·rw [ofS_off h,ofS_off h]
theorem hear_apart {f:Front} (h:okF f) {m n:Msg} (hm:1<=m.frm/\m.frm<=3) (hn:1<=n.frm/\n.frm<=3) (hne:m.tx≠n.tx) (hl:f.disk.notes.length+4<=120) :
  (hearF (hearF f m).1 n).1.way=(hearF (hearF f n).1 m).1.way/\(hearF (hearF f m).1 n).1.disk.notes.length=(hearF (hearF f n).1 m).1.disk.notes.length /\
  ofN (hearF (hearF f m).1 n).1.disk.notes m.tx=ofN (hearF (hearF f n).1 m).1.disk.notes m.tx/\ofN (hearF (hearF f m).1 n).1.disk.notes n.tx=ofN (hearF (hearF f n).1 m).1.disk.notes n.tx:=by
 have l1:=hear_len h (m:=m)
 have l2:=hear_len h (m:=n)
 obtain ⟨a1,a2⟩:=hear_eff h hm (by omega)
 obtain ⟨b1,b2⟩:=hear_eff h hn (by omega)
 obtain ⟨c1,c2⟩:=hear_eff (hear_ok h hm) hn (by omega)
 obtain ⟨d1,d2⟩:=hear_eff (hear_ok h hn) hm (by omega)
 rw [a1,a2,fl_fm hne] at c2
 rw [b1,b2,fl_fm (Ne.symm hne)] at d2
 rw [a1,List.filterMap_filterMap] at c1
 rw [b1,List.filterMap_filterMap] at d1
 have e1:∀ x∈f.way.flatMap (effN m),x.tx=m.tx:=fun x hx=>by
  obtain ⟨t,_,ht⟩:=List.mem_flatMap.1 hx
  exact effN_tx ht
 have e2:∀ x∈f.way.flatMap (effN n),x.tx=n.tx:=fun x hx=>by
  obtain ⟨t,_,ht⟩:=List.mem_flatMap.1 hx
  exact effN_tx ht
 refine ⟨?_,?_,?_,?_⟩
 ·rw [c1,d1];congr 1;funext t;exact eff_comm hne t
 ·rw [c2,d2];simp only [List.length_append];omega
 ·rw [c2,d2];exact ofN_swap (.inr fun x hx=>by rw [e2 x hx];exact Ne.symm hne)
 ·rw [c2,d2];exact ofN_swap (.inl fun x hx=>by rw [e1 x hx];exact hne)
end Go.Proofs.AI
namespace Go.Proofs.AI
open Go.RowKit Go.Proofs
set_option linter.unusedVariables false
set_option linter.unusedSimpArgs false
set_option maxRecDepth 100000
set_option pp.deepTerms true
set_option pp.maxSteps 40000
theorem spec_FroHear_ok (f:Front) (m:Msg):FunOK Tryz.prog 10 2 [] [(0,kFrontS f),(1,kMsg m)] (·=[(2,⟨.tup [(true,3),(false,1),(false,1)],[.c (oNotes (hearB f m).1.disk.notes),.c (.n .i64 (hearB f m).1.disk.safe),.c (oFTxs (hearB f m).1.way),.c (sMsgs (hearB f m).2.1),.c (sFOuts (hearB f m).2.2)],[]⟩)]):=by
 refine fun_to (E:=⟨tab,ctOf [spec_FroOk_c,spec_MsgOk_c,spec_l6Hear_c,spec_l6Copy_c],38,[],[(0,[2,3,4,8,9,23,24,25,26,30,32,33,35,36,37]),(1,[2,3,4,8,9,22,23,24,25,26,30,32,33,35,36,37]),(2,[4,5,6,8,9,23,24,25,26,30,32,33,35,36,37]),(3,[4,7,8,9,23,24,25,26,30,32,33,35]),(4,[4,5,6,8,9,23,24,25,26,30,32,33,35,36,37])],[],[(2,[(4,[24]),(5,[25])]),(3,[(3,[28]),(4,[30]),(2000003,[4])]),(4,[(1000002,[]),(1000003,[])])],[],[]⟩) tab_ok mixed Tryz.func10 rfl Tryz.ntmps10 (rvs:=[.cell 4 38,.tmp 5,.tmp 6]) Tryz.results10 rfl fun hl=>?_
 refine cast (show (let k_1:Prop:=cnRs nilR=t_f (hearB f m).1.disk.notes/\i_0=(hearB f m).1.disk.safe/\cnRs nilR=t_j (hearB f m).1.way/\cnRs (frozenRs (raw []))=t_g (hearB f m).2.1/\cnRs (frozenRs (raw []))=t_k (hearB f m).2.2;∃ (b:Front),(q_e f.disk.notes b.disk.notes/\f.disk.safe=b.disk.safe/\q_h f.way b.way)/\((!froB b)=false->∃ (b:Msg),(m.kind=b.kind/\m.to=b.to/\m.frm=b.frm/\m.tx=b.tx/\m.op.kind=b.op.kind/\m.op.who=b.op.who/\m.op.inn=b.op.inn/\m.op.code=b.op.code/\m.op.sec=b.op.sec/\m.op.fam=b.op.fam/\m.op.gen=b.op.gen)/\((!msgB b)=false->((m.to != i_0)=true->k_1)/\((m.to != i_0)=false->∃ (b:Front),(q_e f.disk.notes b.disk.notes/\f.disk.safe=b.disk.safe/\q_h f.way b.way)/\smallF b/\(∃ (b_1:Front×Msg),((cnRs (frozenRs (typ dNote eNoteO b.disk.notes))=t_e b_1.1.disk.notes/\b.disk.safe=b_1.1.disk.safe/\cnRs (frozenRs (typ dFTx eFTxO b.way))=t_h b_1.1.way)/\m.kind=b_1.2.kind/\m.to=b_1.2.to/\m.frm=b_1.2.frm/\m.tx=b_1.2.tx/\m.op.kind=b_1.2.op.kind/\m.op.who=b_1.2.op.who/\m.op.inn=b_1.2.op.inn/\m.op.code=b_1.2.op.code/\m.op.sec=b_1.2.op.sec/\m.op.fam=b_1.2.op.fam/\m.op.gen=b_1.2.op.gen)/\(b_1.1.way.length<=n_1000/\(∀ (t:FTx),t∈b_1.1.way->smallT t))/\(∃ (b:Front),(q_e (hearF b_1.1 b_1.2).1.disk.notes b.disk.notes/\(hearF b_1.1 b_1.2).1.disk.safe=b.disk.safe/\cnRs (frozenRs (typ dFTx eFTxS (hearF b_1.1 b_1.2).1.way))=t_h b.way)/\smallF b/\q_f b.disk.notes (hearB f m).1.disk.notes/\b.disk.safe=(hearB f m).1.disk.safe/\q_j b.way (hearB f m).1.way/\cnRs (frozenRs (typ dMsg eMsg (hearF b_1.1 b_1.2).2.1))=t_g (hearB f m).2.1/\cnRs (frozenRs (typ dFOut eFOut (hearF b_1.1 b_1.2).2.2))=t_k (hearB f m).2.2))))/\((!msgB b)=true->k_1))/\((!froB b)=true->k_1))=_ by kernel_rfl) ?_
 delta i_0 n_1000 t_e q_e t_f q_f t_g t_h q_h t_j q_j t_k
 simp only [zza,zzb,true_and,and_true,and_self,ne_eq,cI_app,cWrtO_app,cWrtS_app,cWrtO_1,cItemO_1,opr_ex,zcast,frz_nil,nil_map,Option.getD_none,Option.getD_some]
 have no:(froB f&&msgB m&&decide (m.to=0))=false->[]=(hearB f m).1.disk.notes/\0=(hearB f m).1.disk.safe/\[]=(hearB f m).1.way/\cnRs (frozenRs (raw []))=List.map nMsg (hearB f m).2.1/\cnRs (frozenRs (raw []))=List.map nFOut (hearB f m).2.2:=fun h=>by
  simp only [hearB,h];exact ⟨rfl,rfl,rfl,rfl,rfl⟩
 refine ⟨fun h1=>⟨fun h2=>⟨fun h3=>no (by simp [h3]),fun h3=>?_⟩,fun h2=>no (by simp at h2;simp [h2])⟩,fun h1=>no (by simp at h1;simp [h1])⟩
 simp only [Bool.not_eq_false'] at h1 h2
 have h3:m.to=0:=by simpa using h3
 have e:hearB f m=hearF f m:=by simp only [hearB,h1,h2,h3,decide_true,Bool.and_self,if_true]
 have hf:=froB_iff.1 h1
 rw [e]
 exact ⟨hf.small,hf.small.2.1,hf.small.2.2,(hear_ok hf (to_front h2 h3).2.1).small,rfl,rfl,rfl,rfl,rfl⟩
def spec_FroHear_c:Con Tryz.prog:=con0 [.lend,.lend] fun b:Front×Msg=>spec_FroHear_ok (b.1) (b.2)
theorem msgD_le' {l:List Int} {p:Nat} (n:Int) (h:rdB l p 40):(msgD l p n).2<=p+30:=by
 have h1:=msg0_le (l:=l) (p:=p) (rdB_le h (by omega))
 have h2:=odd_le l (msg0 l p).2 n
 have h3:=op_le (l:=l) (p:=(oddB l (msg0 l p).2 n).2+1) 1 (rdB_le h (by omega))
 simp only [msgD]
 split
 ·simp only [msgBent]
  repeat' split
  all_goals simp only<;>omega
 ·simp only;omega
def froM1 (l:List Int):Msg×Nat :=
 let a:=msgD l (frontD l 0 12).2 9
 if a.1.kind<=3 then (if 0<pickB l a.2 5 then (⟨4+pickB l (a.2+1) 4,0,1+pickB l (a.2+2) 3,a.1.tx,dOpr⟩,a.2+3) else (a.1,a.2+1)) else a
def froM2 (f:Front) (l:List Int) (a:Msg×Nat):Msg :=
 if 0<f.way.length then (if 0<pickB l a.2 3 then (if 4<=a.1.kind then ⟨a.1.kind,a.1.to,a.1.frm,(f.way.getD (pickB l (a.2+1) f.way.length).toNat dFTx).tx,a.1.op⟩ else a.1) else a.1) else a.1
def froHr (l:List Int):Msg:=froM2 (frontD l 0 12).1 l (froM1 l)
theorem spec_DrawFroHear_ok (l:List Int) (hpre:okU l):FunOK Tryz.prog 31 1 [] [(0,k1 (sU l))] (·=[(1,⟨.tup [(true,3),(true,11)],.c (oNotes (frontD (l.take 2000) 0 12).1.disk.notes)::.c (.n .i64 (frontD (l.take 2000) 0 12).1.disk.safe)::.c (oFTxs (frontD (l.take 2000) 0 12).1.way)::cKMsg (froHr (l.take 2000)),[]⟩)]):=by
 refine fun_to (E:=⟨tab,ctOf [spec_l20Open_c,spec_l20Front_c,spec_rd_pick_c,spec_l20Msg_c],57,[],[(0,[0,2,3,5,55]),(1,[2,3,4,5,8,55]),(2,[2,3,4,5,8,55]),(3,[2,3,4,5,6,8,55]),(4,[2,3,4,5,6,8,20,55]),(5,[2,3,4,5,6,8,55]),(6,[2,3,4,5,6,8,43,55]),(7,[2,3,5,6,55]),(8,[2,3,5,55])],[],[],[],[]⟩) tab_ok mixed Tryz.func31 rfl Tryz.ntmps31 (rvs:=[.cell 2 38,.cell 3 46]) Tryz.results31 rfl fun hl=>?_
 refine cast (show (let k_2:Prop:=i_0=(froHr (List.take n_2000 l)).to;let k_1:Prop:=i_0=(froHr (List.take n_2000 l)).op.kind/\i_0=(froHr (List.take n_2000 l)).op.who/\i_0=(froHr (List.take n_2000 l)).op.inn/\i_0=(froHr (List.take n_2000 l)).op.code/\i_0=(froHr (List.take n_2000 l)).op.sec/\i_0=(froHr (List.take n_2000 l)).op.fam/\i_0=(froHr (List.take n_2000 l)).op.gen;∃ (b:List Int),q_U l b/\(∃ (b_1:y_6),let k_7:Prop:=decide ((zi (frontD b_1.1 b_1.2.1 b_1.2.2).1.way.length)>i_0)=true;let k_6:Prop:=decide ((zi (frontD b_1.1 b_1.2.1 b_1.2.2).1.way.length)>i_0)=false;let k_5:Prop:=q_j (frontD b_1.1 b_1.2.1 b_1.2.2).1.way (frontD (List.take n_2000 l) n_0 i_12).1.way;let k_4:Prop:=(frontD b_1.1 b_1.2.1 b_1.2.2).1.disk.safe=(frontD (List.take n_2000 l) n_0 i_12).1.disk.safe;let k_3:Prop:=q_f (frontD b_1.1 b_1.2.1 b_1.2.2).1.disk.notes (frontD (List.take n_2000 l) n_0 i_12).1.disk.notes;((q_U (List.take n_2000 b) b_1.1/\zi n_0=zi b_1.2.1)/\i_12=b_1.2.2)/\(rdB b_1.1 b_1.2.1 n_4000/\b_1.2.2<i_1000000)/\(∃ (b:y_6),let k_17:Prop:=decide ((msgD b.1 b.2.1 b.2.2).1.kind≥i_4)=true;let k_16:Prop:=(msgD b.1 b.2.1 b.2.2).1.to=(froHr (List.take n_2000 l)).to;let k_15:Prop:=(msgD b.1 b.2.1 b.2.2).1.tx=(froHr (List.take n_2000 l)).tx;let k_14:Prop:=(msgD b.1 b.2.1 b.2.2).1.frm=(froHr (List.take n_2000 l)).frm;let k_13:Prop:=(msgD b.1 b.2.1 b.2.2).1.kind=(froHr (List.take n_2000 l)).kind;let k_12:Prop:=k_15/\k_1;let k_11:Prop:=(msgD b.1 b.2.1 b.2.2).1.op.kind=(froHr (List.take n_2000 l)).op.kind/\(msgD b.1 b.2.1 b.2.2).1.op.who=(froHr (List.take n_2000 l)).op.who/\(msgD b.1 b.2.1 b.2.2).1.op.inn=(froHr (List.take n_2000 l)).op.inn/\(msgD b.1 b.2.1 b.2.2).1.op.code=(froHr (List.take n_2000 l)).op.code/\(msgD b.1 b.2.1 b.2.2).1.op.sec=(froHr (List.take n_2000 l)).op.sec/\(msgD b.1 b.2.1 b.2.2).1.op.fam=(froHr (List.take n_2000 l)).op.fam/\(msgD b.1 b.2.1 b.2.2).1.op.gen=(froHr (List.take n_2000 l)).op.gen;let k_10:Prop:=k_3/\k_4/\k_5/\k_13/\k_16/\k_14/\k_15/\k_11;let k_9:Prop:=k_6->k_10;let k_8:Prop:=decide ((msgD b.1 b.2.1 b.2.2).1.kind≥i_4)=false->k_10;((q_U b_1.1 b.1/\(zi (frontD b_1.1 b_1.2.1 b_1.2.2).2)=zi b.2.1)/\i_9=b.2.2)/\(rdB b.1 b.2.1 n_40/\b.2.2<i_1000000)/\(decide ((msgD b.1 b.2.1 b.2.2).1.kind<=i_3)=true->∃ (b_2:y_6),((q_U b.1 b_2.1/\(zi (msgD b.1 b.2.1 b.2.2).2)=zi b_2.2.1)/\i_5=b_2.2.2)/\rdB b_2.1 b_2.2.1 n_1/\(decide (pickB b_2.1 b_2.2.1 b_2.2.2>i_0)=true->∃ (b_3:y_6),let k_18:Prop:=wr_ (i_4+pickB b_3.1 b_3.2.1 b_3.2.2)=(froHr (List.take n_2000 l)).kind;((q_U b_2.1 b_3.1/\(zi (b_2.2.1+n_1))=zi b_3.2.1)/\i_4=b_3.2.2)/\rdB b_3.1 b_3.2.1 n_1/\(∃ (b_4:y_6),let k_20:Prop:=wr_ (i_1+pickB b_4.1 b_4.2.1 b_4.2.2)=(froHr (List.take n_2000 l)).frm;let k_19:Prop:=k_3/\k_4/\k_5/\k_18/\k_2/\k_20/\k_12;((q_U b_3.1 b_4.1/\(zi (b_3.2.1+n_1))=zi b_4.2.1)/\i_3=b_4.2.2)/\rdB b_4.1 b_4.2.1 n_1/\(k_7->∃ (b_5:y_6),((q_U b_4.1 b_5.1/\(zi (b_4.2.1+n_1))=zi b_5.2.1)/\i_3=b_5.2.2)/\rdB b_5.1 b_5.2.1 n_1/\(decide (pickB b_5.1 b_5.2.1 b_5.2.2>i_0)=true->(decide (wr_ (i_4+pickB b_3.1 b_3.2.1 b_3.2.2)≥i_4)=true->∃ (b:y_6),((q_U b_5.1 b.1/\(zi (b_5.2.1+n_1))=zi b.2.1)/\(zi (frontD b_1.1 b_1.2.1 b_1.2.2).1.way.length)=b.2.2)/\rdB b.1 b.2.1 n_1/\(i_0<=pickB b.1 b.2.1 b.2.2/\pickB b.1 b.2.1 b.2.2<(zi (frontD b_1.1 b_1.2.1 b_1.2.2).1.way.length))/\(pickB b.1 b.2.1 b.2.2).toNat<(frontD b_1.1 b_1.2.1 b_1.2.2).1.way.length/\k_3/\k_4/\k_5/\k_18/\k_2/\k_20/\((frontD b_1.1 b_1.2.1 b_1.2.2).1.way.getD (pickB b.1 b.2.1 b.2.2).toNat dFTx).tx=(froHr (List.take n_2000 l)).tx/\k_1)/\(decide (wr_ (i_4+pickB b_3.1 b_3.2.1 b_3.2.2)≥i_4)=false->k_19))/\(decide (pickB b_5.1 b_5.2.1 b_5.2.2>i_0)=false->k_19))/\(k_6->k_19)))/\(decide (pickB b_2.1 b_2.2.1 b_2.2.2>i_0)=false->(k_7->∃ (b_3:y_6),((q_U b_2.1 b_3.1/\(zi (b_2.2.1+n_1))=zi b_3.2.1)/\i_3=b_3.2.2)/\rdB b_3.1 b_3.2.1 n_1/\(decide (pickB b_3.1 b_3.2.1 b_3.2.2>i_0)=true->(k_17->∃ (b_4:y_6),((q_U b_3.1 b_4.1/\(zi (b_3.2.1+n_1))=zi b_4.2.1)/\(zi (frontD b_1.1 b_1.2.1 b_1.2.2).1.way.length)=b_4.2.2)/\rdB b_4.1 b_4.2.1 n_1/\(i_0<=pickB b_4.1 b_4.2.1 b_4.2.2/\pickB b_4.1 b_4.2.1 b_4.2.2<(zi (frontD b_1.1 b_1.2.1 b_1.2.2).1.way.length))/\(pickB b_4.1 b_4.2.1 b_4.2.2).toNat<(frontD b_1.1 b_1.2.1 b_1.2.2).1.way.length/\k_3/\k_4/\k_5/\k_13/\k_16/\k_14/\((frontD b_1.1 b_1.2.1 b_1.2.2).1.way.getD (pickB b_4.1 b_4.2.1 b_4.2.2).toNat dFTx).tx=(froHr (List.take n_2000 l)).tx/\k_11)/\k_8)/\(decide (pickB b_3.1 b_3.2.1 b_3.2.2>i_0)=false->k_10))/\k_9))/\(decide ((msgD b.1 b.2.1 b.2.2).1.kind<=i_3)=false->(k_7->∃ (b_2:y_6),((q_U b.1 b_2.1/\(zi (msgD b.1 b.2.1 b.2.2).2)=zi b_2.2.1)/\i_3=b_2.2.2)/\rdB b_2.1 b_2.2.1 n_1/\(decide (pickB b_2.1 b_2.2.1 b_2.2.2>i_0)=true->(k_17->∃ (b_3:y_6),((q_U b_2.1 b_3.1/\(zi (b_2.2.1+n_1))=zi b_3.2.1)/\(zi (frontD b_1.1 b_1.2.1 b_1.2.2).1.way.length)=b_3.2.2)/\rdB b_3.1 b_3.2.1 n_1/\(i_0<=pickB b_3.1 b_3.2.1 b_3.2.2/\pickB b_3.1 b_3.2.1 b_3.2.2<(zi (frontD b_1.1 b_1.2.1 b_1.2.2).1.way.length))/\(pickB b_3.1 b_3.2.1 b_3.2.2).toNat<(frontD b_1.1 b_1.2.1 b_1.2.2).1.way.length/\k_3/\k_4/\k_5/\k_13/\k_16/\k_14/\((frontD b_1.1 b_1.2.1 b_1.2.2).1.way.getD (pickB b_3.1 b_3.2.1 b_3.2.2).toNat dFTx).tx=(froHr (List.take n_2000 l)).tx/\k_11)/\k_8)/\(decide (pickB b_2.1 b_2.2.1 b_2.2.2>i_0)=false->k_10))/\k_9))))=_ by kernel_rfl) ?_
 delta i_0 i_9 i_1 i_5 i_3 i_4 wr_ zi n_0 n_1 n_40 i_1000000 t_U q_U n_2000 y_6 i_12 t_f q_f t_j q_j n_4000
 simp only [zza,zzb,true_and,and_true,and_self,ne_eq,cI_app,cWrtO_app,cWrtS_app,cWrtO_1,cItemO_1,opr_ex,zcast,frz_nil,nil_map,Option.getD_none,Option.getD_some]
 have hu:okU (l.take 2000):=fun x hx=>hpre x (List.mem_of_mem_take hx)
 generalize l.take 2000=L at *
 have hr:∀ q:Nat,q<=100000->∀ k:Nat,k<=4000->rdB L q k:=fun q hq k hk=>⟨hu,by omega⟩
 have hd:=frontD_le 12 (hr 0 (by omega) 4000 (by omega))
 have hm:=msgD_le' (l:=L) (p:=(frontD L 0 12).2) 9 (hr _ (by omega) 40 (by omega))
 have e1:froM1 L=if (msgD L (frontD L 0 12).2 9).1.kind<=3 then (if 0<pickB L (msgD L (frontD L 0 12).2 9).2 5 then (⟨4+pickB L ((msgD L (frontD L 0 12).2 9).2+1) 4,0,1+pickB L ((msgD L (frontD L 0 12).2 9).2+2) 3,(msgD L (frontD L 0 12).2 9).1.tx,dOpr⟩,(msgD L (frontD L 0 12).2 9).2+3) else ((msgD L (frontD L 0 12).2 9).1,(msgD L (frontD L 0 12).2 9).2+1)) else msgD L (frontD L 0 12).2 9:=rfl
 simp only [froHr]
 rw [e1]
 generalize frontD L 0 12=A at *
 obtain ⟨f,p⟩:=A
 simp only at hd hm ⊢
 generalize msgD L p 9=B at *
 obtain ⟨m,q⟩:=B
 simp only at hm ⊢
 have b1:=pick_lt (l:=L) (p:=q+1) (n:=4) (hr _ (by omega) 1 (by omega)) (by omega)
 have b2:=pick_lt (l:=L) (p:=q+2) (n:=3) (hr _ (by omega) 1 (by omega)) (by omega)
 have b2':0<=pickB L (q+1+1) 3/\pickB L (q+1+1) 3<3:=b2
 have e2:IntKind.i64.wrap (4+pickB L (q+1) 4)=4+pickB L (q+1) 4:=IntWalk.i64_in _ (by omega)
 have e3:IntKind.i64.wrap (1+pickB L (q+1+1) 3)=1+pickB L (q+2) 3:=IntWalk.i64_in _ (by omega)
 have pk:∀ (r:Nat),r<=90000->0<f.way.length->0<=pickB L r (f.way.length:Int)/\pickB L r (f.way.length:Int)<(f.way.length:Int):=fun r h1 h2=>pick_lt (l:=L) (p:=r) (n:=(f.way.length:Int)) (hr _ (by omega) 1 (by omega)) (by omega)
 have fin:∀ (a:Msg) (r:Nat),r<=80000->(0<(f.way.length:Int)->rdB L r 1/\(0<pickB L r 3->(4<=a.kind->rdB L (r+1) 1/\0<=pickB L (r+1) f.way.length/\pickB L (r+1) f.way.length<f.way.length/\(pickB L (r+1) f.way.length).toNat<f.way.length/\froM2 f L (a,r)=⟨a.kind,a.to,a.frm,(f.way.getD (pickB L (r+1) f.way.length).toNat dFTx).tx,a.op⟩)/\(¬ 4<=a.kind->froM2 f L (a,r)=a))/\(¬ 0<pickB L r 3->froM2 f L (a,r)=a))/\(¬ 0<(f.way.length:Int)->froM2 f L (a,r)=a):=fun a r hq=>by
  refine ⟨fun h1=>⟨hr _ (by omega) _ (by omega),fun h2=>⟨fun h3=>?_,fun h3=>?_⟩,fun h2=>?_⟩,fun h1=>?_⟩
  ·have:=pk (r+1) (by omega) (by omega)
   exact ⟨hr _ (by omega) _ (by omega),this.1,this.2,by omega,by simp only [froM2];rw [if_pos (by omega),if_pos h2,if_pos h3]⟩
  ·simp only [froM2];rw [if_pos (by omega),if_pos h2,if_neg h3]
  ·simp only [froM2];rw [if_pos (by omega),if_neg h2]
  ·simp only [froM2];rw [if_neg (by omega)]
 simp only [e2,e3]
 refine ⟨hr _ (by omega) _ (by omega),by omega,hr _ (by omega) _ (by omega),by omega,fun h1=>⟨hr _ (by omega) _ (by omega),fun h2=>⟨hr _ (by omega) _ (by omega),hr _ (by omega) _ (by omega),?_⟩,fun h2=>?_⟩,fun h1=>?_⟩
 ·obtain ⟨g1,g2⟩:=fin ⟨4+pickB L (q+1) 4,0,1+pickB L (q+2) 3,m.tx,dOpr⟩ (q+3) (by omega)
  simp only [if_pos h1,if_pos h2]
  refine ⟨fun h3=>⟨(g1 h3).1,fun h4=>⟨fun h5=>?_,fun h5=>?_⟩,fun h4=>?_⟩,fun h3=>?_⟩
  ·obtain ⟨k1,k2,k3,k4,k5⟩:=((g1 h3).2.1 h4).1 h5
   rw [k5];refine ⟨k1,k2,k3,k4,?_⟩;and_intros<;>rfl
  ·rw [((g1 h3).2.1 h4).2 h5];and_intros<;>rfl
  ·rw [(g1 h3).2.2 h4];and_intros<;>rfl
  ·rw [g2 h3];and_intros<;>rfl
 ·obtain ⟨g1,g2⟩:=fin m (q+1) (by omega)
  simp only [if_pos h1,if_neg h2]
  refine ⟨fun h3=>⟨(g1 h3).1,fun h4=>⟨fun h5=>?_,fun h5=>?_⟩,fun h4=>?_⟩,fun h3=>?_⟩
  ·obtain ⟨k1,k2,k3,k4,k5⟩:=((g1 h3).2.1 h4).1 h5
   rw [k5];refine ⟨k1,k2,k3,k4,?_⟩;and_intros<;>rfl
  ·rw [((g1 h3).2.1 h4).2 h5];and_intros<;>rfl
  ·rw [(g1 h3).2.2 h4];and_intros<;>rfl
  ·rw [g2 h3];and_intros<;>rfl
 ·obtain ⟨g1,g2⟩:=fin m q (by omega)
  simp only [if_neg h1]
  refine ⟨fun h3=>⟨(g1 h3).1,fun h4=>⟨fun h5=>?_,fun h5=>?_⟩,fun h4=>?_⟩,fun h3=>?_⟩
  ·obtain ⟨k1,k2,k3,k4,k5⟩:=((g1 h3).2.1 h4).1 h5
   rw [k5];refine ⟨k1,k2,k3,k4,?_⟩;and_intros<;>rfl
  ·rw [((g1 h3).2.1 h4).2 h5];and_intros<;>rfl
  ·rw [(g1 h3).2.2 h4];and_intros<;>rfl
  ·rw [g2 h3];and_intros<;>rfl
def spec_DrawFroHear_c:Con Tryz.prog:=conP [.lend] fun (b:List Int) h=>spec_DrawFroHear_ok b h
end Go.Proofs.AI
namespace Go.Proofs.AI
open Go.RowKit Go.Proofs
set_option linter.unusedVariables false
set_option linter.unusedSimpArgs false
set_option maxRecDepth 100000
theorem laws_FnFroApart_ok (l:List Int) (r:List Int) (hpre:okU l/\okU r):FunOK Tryz.prog 7 2 [] [(0,k1 (sU l)),(1,k1 (sU r))] (·=[(2,kB true)]):=by
 refine fun_to (E:=⟨tabM,ctOf [spec_FroHear_c,impl_FroHear_c,laws_jaOk_c,laws_jaFront_c,impl_DiskOf_c,spec_DrawFroHear_c,spec_FroOk_c,spec_MsgOk_c,laws_jaInts_c],210,[],[(0,[0,1]),(1,[0,1,34]),(2,[4]),(3,[1,5,6]),(4,[5,6,8]),(5,[5,6,8,9]),(6,[5,6,8,9,12]),(7,[5,6,8,9,62]),(8,[4]),(9,[5,6,8,9,100]),(10,[4]),(11,[5,6,8,15]),(12,[6,8,15,18]),(13,[6,8,15,21]),(14,[6,8,15,21,140]),(15,[4]),(16,[6,8,15,21,24]),(17,[6,8,15,21,24,145]),(18,[6,8,15,21,24]),(19,[6,8,15,21,24,25]),(20,[6,8,15,21,24,25,26]),(21,[6,8,15,21,24,185]),(22,[4]),(23,[4])],[(0,⟨List Note×Int×List FTx×List Note×Int×List FTx×Nat,fun x=>[(6,⟨.box,[.c (.n .i64 ((froHr (List.take (2000:Nat) l)).kind)),.c (.n .i64 ((froHr (List.take (2000:Nat) l)).to)),.c (.n .i64 ((froHr (List.take (2000:Nat) l)).frm)),.c (.n .i64 ((froHr (List.take (2000:Nat) l)).tx)),.c (.n .i64 ((froHr (List.take (2000:Nat) l)).op.kind)),.c (.n .i64 ((froHr (List.take (2000:Nat) l)).op.who)),.c (.n .i64 ((froHr (List.take (2000:Nat) l)).op.inn)),.c (.n .i64 ((froHr (List.take (2000:Nat) l)).op.code)),.c (.n .i64 ((froHr (List.take (2000:Nat) l)).op.sec)),.c (.n .i64 ((froHr (List.take (2000:Nat) l)).op.fam)),.c (.n .i64 ((froHr (List.take (2000:Nat) l)).op.gen))],[]⟩),(8,⟨.box,[.c (.n .i64 ((froHr (List.take (2000:Nat) r)).kind)),.c (.n .i64 ((froHr (List.take (2000:Nat) r)).to)),.c (.n .i64 ((froHr (List.take (2000:Nat) r)).frm)),.c (.n .i64 ((froHr (List.take (2000:Nat) r)).tx)),.c (.n .i64 ((froHr (List.take (2000:Nat) r)).op.kind)),.c (.n .i64 ((froHr (List.take (2000:Nat) r)).op.who)),.c (.n .i64 ((froHr (List.take (2000:Nat) r)).op.inn)),.c (.n .i64 ((froHr (List.take (2000:Nat) r)).op.code)),.c (.n .i64 ((froHr (List.take (2000:Nat) r)).op.sec)),.c (.n .i64 ((froHr (List.take (2000:Nat) r)).op.fam)),.c (.n .i64 ((froHr (List.take (2000:Nat) r)).op.gen))],[]⟩),(15,⟨.box,[.c (sNotes (x.1)),.c (.n .i64 (x.2.1)),.c (sFTxs (x.2.2.1))],[]⟩),(21,⟨.box,[.c (sNotes (x.2.2.2.1)),.c (.n .i64 (x.2.2.2.2.1)),.c (sFTxs (x.2.2.2.2.2.1))],[]⟩),(24,(k1 (.n .i64 (x.2.2.2.2.2.2:Int))))]⟩)],[(3,[(2,[37])]),(4,[(2,[42])]),(5,[(3,[48])]),(6,[(3,[55])]),(11,[(3,[105])]),(12,[(3,[112])]),(13,[(3,[119])])],[],[]⟩) tabM_ok mixed Tryz.func7 rfl Tryz.ntmps7 (rvs:=[.tmp 4]) Tryz.results7 rfl fun hl=>?_
 refine cast (show (let k_1:Prop:=∃ (b:Unit),True/\true=true;(decide ((zi l.length)>i_1048576)=false->(decide ((zi r.length)>i_1048576)=true->true=true)/\(decide ((zi r.length)>i_1048576)=false->∃ (b:List Int),q_U l b/\okU b/\(∃ (b_1:List Int),q_U r b_1/\okU b_1/\(∃ (b_2:Front×Msg),((cnRs (frozenRs (typ dNote eNoteO (frontD (List.take n_2000 b) n_0 i_12).1.disk.notes))=t_e b_2.1.disk.notes/\(frontD (List.take n_2000 b) n_0 i_12).1.disk.safe=b_2.1.disk.safe/\cnRs (frozenRs (typ dFTx eFTxO (frontD (List.take n_2000 b) n_0 i_12).1.way))=t_h b_2.1.way)/\(froHr (List.take n_2000 b)).kind=b_2.2.kind/\(froHr (List.take n_2000 b)).to=b_2.2.to/\(froHr (List.take n_2000 b)).frm=b_2.2.frm/\(froHr (List.take n_2000 b)).tx=b_2.2.tx/\(froHr (List.take n_2000 b)).op.kind=b_2.2.op.kind/\(froHr (List.take n_2000 b)).op.who=b_2.2.op.who/\(froHr (List.take n_2000 b)).op.inn=b_2.2.op.inn/\(froHr (List.take n_2000 b)).op.code=b_2.2.op.code/\(froHr (List.take n_2000 b)).op.sec=b_2.2.op.sec/\(froHr (List.take n_2000 b)).op.fam=b_2.2.op.fam/\(froHr (List.take n_2000 b)).op.gen=b_2.2.op.gen)/\(∃ (b_3:Front×Msg),((cnRs (frozenRs (typ dNote eNoteO (frontD (List.take n_2000 b) n_0 i_12).1.disk.notes))=t_e b_3.1.disk.notes/\(frontD (List.take n_2000 b) n_0 i_12).1.disk.safe=b_3.1.disk.safe/\cnRs (frozenRs (typ dFTx eFTxO (frontD (List.take n_2000 b) n_0 i_12).1.way))=t_h b_3.1.way)/\(froHr (List.take n_2000 b)).kind=b_3.2.kind/\(froHr (List.take n_2000 b)).to=b_3.2.to/\(froHr (List.take n_2000 b)).frm=b_3.2.frm/\(froHr (List.take n_2000 b)).tx=b_3.2.tx/\(froHr (List.take n_2000 b)).op.kind=b_3.2.op.kind/\(froHr (List.take n_2000 b)).op.who=b_3.2.op.who/\(froHr (List.take n_2000 b)).op.inn=b_3.2.op.inn/\(froHr (List.take n_2000 b)).op.code=b_3.2.op.code/\(froHr (List.take n_2000 b)).op.sec=b_3.2.op.sec/\(froHr (List.take n_2000 b)).op.fam=b_3.2.op.fam/\(froHr (List.take n_2000 b)).op.gen=b_3.2.op.gen)/\(∃ (b_4:Front×Front),((cnRs (frozenRs (typ dNote eNoteO (hearB b_2.1 b_2.2).1.disk.notes))=t_e b_4.1.disk.notes/\(hearB b_2.1 b_2.2).1.disk.safe=b_4.1.disk.safe/\cnRs (frozenRs (typ dFTx eFTxO (hearB b_2.1 b_2.2).1.way))=t_h b_4.1.way)/\cnRs (frozenRs (typ dNote eNoteO (hearB b_3.1 b_3.2).1.disk.notes))=t_e b_4.2.disk.notes/\(hearB b_3.1 b_3.2).1.disk.safe=b_4.2.disk.safe/\cnRs (frozenRs (typ dFTx eFTxO (hearB b_3.1 b_3.2).1.way))=t_h b_4.2.way)/\((!decide (b_4.1=b_4.2))=true->false=true)/\((!decide (b_4.1=b_4.2))=false->∃ (b_5:Front),(cnRs (frozenRs (typ dNote eNoteO (frontD (List.take n_2000 b) n_0 i_12).1.disk.notes))=t_e b_5.disk.notes/\(frontD (List.take n_2000 b) n_0 i_12).1.disk.safe=b_5.disk.safe/\cnRs (frozenRs (typ dFTx eFTxO (frontD (List.take n_2000 b) n_0 i_12).1.way))=t_h b_5.way)/\((!froB b_5)=false->∃ (b_6:Msg),((froHr (List.take n_2000 b)).kind=b_6.kind/\(froHr (List.take n_2000 b)).to=b_6.to/\(froHr (List.take n_2000 b)).frm=b_6.frm/\(froHr (List.take n_2000 b)).tx=b_6.tx/\(froHr (List.take n_2000 b)).op.kind=b_6.op.kind/\(froHr (List.take n_2000 b)).op.who=b_6.op.who/\(froHr (List.take n_2000 b)).op.inn=b_6.op.inn/\(froHr (List.take n_2000 b)).op.code=b_6.op.code/\(froHr (List.take n_2000 b)).op.sec=b_6.op.sec/\(froHr (List.take n_2000 b)).op.fam=b_6.op.fam/\(froHr (List.take n_2000 b)).op.gen=b_6.op.gen)/\((!msgB b_6)=false->∃ (b_7:Msg),((froHr (List.take n_2000 b_1)).kind=b_7.kind/\(froHr (List.take n_2000 b_1)).to=b_7.to/\(froHr (List.take n_2000 b_1)).frm=b_7.frm/\(froHr (List.take n_2000 b_1)).tx=b_7.tx/\(froHr (List.take n_2000 b_1)).op.kind=b_7.op.kind/\(froHr (List.take n_2000 b_1)).op.who=b_7.op.who/\(froHr (List.take n_2000 b_1)).op.inn=b_7.op.inn/\(froHr (List.take n_2000 b_1)).op.code=b_7.op.code/\(froHr (List.take n_2000 b_1)).op.sec=b_7.op.sec/\(froHr (List.take n_2000 b_1)).op.fam=b_7.op.fam/\(froHr (List.take n_2000 b_1)).op.gen=b_7.op.gen)/\((!msgB b_7)=false->(((froHr (List.take n_2000 b)).to != i_0)=false->(((froHr (List.take n_2000 b_1)).to != i_0)=false->(((froHr (List.take n_2000 b)).tx==(froHr (List.take n_2000 b_1)).tx)=false->(decide (wr_ ((zi (frontD (List.take n_2000 b) n_0 i_12).1.disk.notes.length)+i_4)>i_120)=true->k_1)/\(decide (wr_ ((zi (frontD (List.take n_2000 b) n_0 i_12).1.disk.notes.length)+i_4)>i_120)=false->∃ (b_8:Front×Msg),((cnRs (frozenRs (typ dNote eNoteO (hearB b_2.1 b_2.2).1.disk.notes))=t_e b_8.1.disk.notes/\(hearB b_2.1 b_2.2).1.disk.safe=b_8.1.disk.safe/\cnRs (frozenRs (typ dFTx eFTxO (hearB b_2.1 b_2.2).1.way))=t_h b_8.1.way)/\(froHr (List.take n_2000 b_1)).kind=b_8.2.kind/\(froHr (List.take n_2000 b_1)).to=b_8.2.to/\(froHr (List.take n_2000 b_1)).frm=b_8.2.frm/\(froHr (List.take n_2000 b_1)).tx=b_8.2.tx/\(froHr (List.take n_2000 b_1)).op.kind=b_8.2.op.kind/\(froHr (List.take n_2000 b_1)).op.who=b_8.2.op.who/\(froHr (List.take n_2000 b_1)).op.inn=b_8.2.op.inn/\(froHr (List.take n_2000 b_1)).op.code=b_8.2.op.code/\(froHr (List.take n_2000 b_1)).op.sec=b_8.2.op.sec/\(froHr (List.take n_2000 b_1)).op.fam=b_8.2.op.fam/\(froHr (List.take n_2000 b_1)).op.gen=b_8.2.op.gen)/\(∃ (b_9:Front×Msg),((cnRs (frozenRs (typ dNote eNoteO (frontD (List.take n_2000 b) n_0 i_12).1.disk.notes))=t_e b_9.1.disk.notes/\(frontD (List.take n_2000 b) n_0 i_12).1.disk.safe=b_9.1.disk.safe/\cnRs (frozenRs (typ dFTx eFTxO (frontD (List.take n_2000 b) n_0 i_12).1.way))=t_h b_9.1.way)/\(froHr (List.take n_2000 b_1)).kind=b_9.2.kind/\(froHr (List.take n_2000 b_1)).to=b_9.2.to/\(froHr (List.take n_2000 b_1)).frm=b_9.2.frm/\(froHr (List.take n_2000 b_1)).tx=b_9.2.tx/\(froHr (List.take n_2000 b_1)).op.kind=b_9.2.op.kind/\(froHr (List.take n_2000 b_1)).op.who=b_9.2.op.who/\(froHr (List.take n_2000 b_1)).op.inn=b_9.2.op.inn/\(froHr (List.take n_2000 b_1)).op.code=b_9.2.op.code/\(froHr (List.take n_2000 b_1)).op.sec=b_9.2.op.sec/\(froHr (List.take n_2000 b_1)).op.fam=b_9.2.op.fam/\(froHr (List.take n_2000 b_1)).op.gen=b_9.2.op.gen)/\(∃ (b_10:Front×Msg),((cnRs (frozenRs (typ dNote eNoteO (hearB b_9.1 b_9.2).1.disk.notes))=t_e b_10.1.disk.notes/\(hearB b_9.1 b_9.2).1.disk.safe=b_10.1.disk.safe/\cnRs (frozenRs (typ dFTx eFTxO (hearB b_9.1 b_9.2).1.way))=t_h b_10.1.way)/\(froHr (List.take n_2000 b)).kind=b_10.2.kind/\(froHr (List.take n_2000 b)).to=b_10.2.to/\(froHr (List.take n_2000 b)).frm=b_10.2.frm/\(froHr (List.take n_2000 b)).tx=b_10.2.tx/\(froHr (List.take n_2000 b)).op.kind=b_10.2.op.kind/\(froHr (List.take n_2000 b)).op.who=b_10.2.op.who/\(froHr (List.take n_2000 b)).op.inn=b_10.2.op.inn/\(froHr (List.take n_2000 b)).op.code=b_10.2.op.code/\(froHr (List.take n_2000 b)).op.sec=b_10.2.op.sec/\(froHr (List.take n_2000 b)).op.fam=b_10.2.op.fam/\(froHr (List.take n_2000 b)).op.gen=b_10.2.op.gen)/\(((zi (hearB b_8.1 b_8.2).1.way.length) != (zi (hearB b_10.1 b_10.2).1.way.length))=false->(((zi (hearB b_8.1 b_8.2).1.disk.notes.length) != (zi (hearB b_10.1 b_10.2).1.disk.notes.length))=true->false=true)/\(((zi (hearB b_8.1 b_8.2).1.disk.notes.length) != (zi (hearB b_10.1 b_10.2).1.disk.notes.length))=false->∃ (pre:y_34->Prop),∃ (μ:y_34->Nat),∃ (x0:y_34),(((froHr (List.take n_2000 b)).kind=(froHr (List.take n_2000 l)).kind/\(froHr (List.take n_2000 b)).to=(froHr (List.take n_2000 l)).to/\(froHr (List.take n_2000 b)).frm=(froHr (List.take n_2000 l)).frm/\(froHr (List.take n_2000 b)).tx=(froHr (List.take n_2000 l)).tx/\(froHr (List.take n_2000 b)).op.kind=(froHr (List.take n_2000 l)).op.kind/\(froHr (List.take n_2000 b)).op.who=(froHr (List.take n_2000 l)).op.who/\(froHr (List.take n_2000 b)).op.inn=(froHr (List.take n_2000 l)).op.inn/\(froHr (List.take n_2000 b)).op.code=(froHr (List.take n_2000 l)).op.code/\(froHr (List.take n_2000 b)).op.sec=(froHr (List.take n_2000 l)).op.sec/\(froHr (List.take n_2000 b)).op.fam=(froHr (List.take n_2000 l)).op.fam/\(froHr (List.take n_2000 b)).op.gen=(froHr (List.take n_2000 l)).op.gen)/\((froHr (List.take n_2000 b_1)).kind=(froHr (List.take n_2000 r)).kind/\(froHr (List.take n_2000 b_1)).to=(froHr (List.take n_2000 r)).to/\(froHr (List.take n_2000 b_1)).frm=(froHr (List.take n_2000 r)).frm/\(froHr (List.take n_2000 b_1)).tx=(froHr (List.take n_2000 r)).tx/\(froHr (List.take n_2000 b_1)).op.kind=(froHr (List.take n_2000 r)).op.kind/\(froHr (List.take n_2000 b_1)).op.who=(froHr (List.take n_2000 r)).op.who/\(froHr (List.take n_2000 b_1)).op.inn=(froHr (List.take n_2000 r)).op.inn/\(froHr (List.take n_2000 b_1)).op.code=(froHr (List.take n_2000 r)).op.code/\(froHr (List.take n_2000 b_1)).op.sec=(froHr (List.take n_2000 r)).op.sec/\(froHr (List.take n_2000 b_1)).op.fam=(froHr (List.take n_2000 r)).op.fam/\(froHr (List.take n_2000 b_1)).op.gen=(froHr (List.take n_2000 r)).op.gen)/\(cnRs (frozenRs (typ dNote eNoteO (hearB b_8.1 b_8.2).1.disk.notes))=t_e x0.1/\(hearB b_8.1 b_8.2).1.disk.safe=x0.2.1/\cnRs (frozenRs (typ dFTx eFTxO (hearB b_8.1 b_8.2).1.way))=t_h x0.2.2.1)/\(cnRs (frozenRs (typ dNote eNoteO (hearB b_10.1 b_10.2).1.disk.notes))=t_e x0.2.2.2.1/\(hearB b_10.1 b_10.2).1.disk.safe=x0.2.2.2.2.1/\cnRs (frozenRs (typ dFTx eFTxO (hearB b_10.1 b_10.2).1.way))=t_h x0.2.2.2.2.2.1)/\i_0=zi x0.2.2.2.2.2.2)/\pre x0/\(∀ (x:y_34),pre x->(decide (zi x.2.2.2.2.2.2<zi x.2.2.1.length)=true->(i_0<=zi x.2.2.2.2.2.2/\zi x.2.2.2.2.2.2<zi x.2.2.1.length)/\(i_0<=zi x.2.2.2.2.2.2/\zi x.2.2.2.2.2.2<zi x.2.2.2.2.2.1.length)/\(((g_FTx x.2.2.1 x.2.2.2.2.2.2).tx != (g_FTx x.2.2.2.2.2.1 x.2.2.2.2.2.2).tx)=false->((if true=true then !(g_FTx x.2.2.1 x.2.2.2.2.2.2).yes==(g_FTx x.2.2.2.2.2.1 x.2.2.2.2.2.2).yes else (g_FTx x.2.2.1 x.2.2.2.2.2.2).yes==(g_FTx x.2.2.2.2.2.1 x.2.2.2.2.2.2).yes)=false->∃ (b:y_10),(q_I (g_FTx x.2.2.1 x.2.2.2.2.2.2).can b.1/\q_I (g_FTx x.2.2.2.2.2.1 x.2.2.2.2.2.2).can b.2)/\((!decide (b.1=b.2))=false->∃ (b:y_10),(q_I (g_FTx x.2.2.1 x.2.2.2.2.2.2).know b.1/\q_I (g_FTx x.2.2.2.2.2.1 x.2.2.2.2.2.2).know b.2)/\((!decide (b.1=b.2))=true->false=true)/\((!decide (b.1=b.2))=false->∃ (y:y_34),(((froHr (List.take n_2000 l)).kind=(froHr (List.take n_2000 l)).kind/\(froHr (List.take n_2000 l)).to=(froHr (List.take n_2000 l)).to/\(froHr (List.take n_2000 l)).frm=(froHr (List.take n_2000 l)).frm/\(froHr (List.take n_2000 l)).tx=(froHr (List.take n_2000 l)).tx/\(froHr (List.take n_2000 l)).op.kind=(froHr (List.take n_2000 l)).op.kind/\(froHr (List.take n_2000 l)).op.who=(froHr (List.take n_2000 l)).op.who/\(froHr (List.take n_2000 l)).op.inn=(froHr (List.take n_2000 l)).op.inn/\(froHr (List.take n_2000 l)).op.code=(froHr (List.take n_2000 l)).op.code/\(froHr (List.take n_2000 l)).op.sec=(froHr (List.take n_2000 l)).op.sec/\(froHr (List.take n_2000 l)).op.fam=(froHr (List.take n_2000 l)).op.fam/\(froHr (List.take n_2000 l)).op.gen=(froHr (List.take n_2000 l)).op.gen)/\((froHr (List.take n_2000 r)).kind=(froHr (List.take n_2000 r)).kind/\(froHr (List.take n_2000 r)).to=(froHr (List.take n_2000 r)).to/\(froHr (List.take n_2000 r)).frm=(froHr (List.take n_2000 r)).frm/\(froHr (List.take n_2000 r)).tx=(froHr (List.take n_2000 r)).tx/\(froHr (List.take n_2000 r)).op.kind=(froHr (List.take n_2000 r)).op.kind/\(froHr (List.take n_2000 r)).op.who=(froHr (List.take n_2000 r)).op.who/\(froHr (List.take n_2000 r)).op.inn=(froHr (List.take n_2000 r)).op.inn/\(froHr (List.take n_2000 r)).op.code=(froHr (List.take n_2000 r)).op.code/\(froHr (List.take n_2000 r)).op.sec=(froHr (List.take n_2000 r)).op.sec/\(froHr (List.take n_2000 r)).op.fam=(froHr (List.take n_2000 r)).op.fam/\(froHr (List.take n_2000 r)).op.gen=(froHr (List.take n_2000 r)).op.gen)/\(q_e x.1 y.1/\x.2.1=y.2.1/\q_h x.2.2.1 y.2.2.1)/\(q_e x.2.2.2.1 y.2.2.2.1/\x.2.2.2.2.1=y.2.2.2.2.1/\q_h x.2.2.2.2.2.1 y.2.2.2.2.2.1)/\wr_ ((zi x.2.2.2.2.2.2)+i_1)=zi y.2.2.2.2.2.2)/\pre y/\μ y<μ x))/\((!decide (b.1=b.2))=true->false=true))/\((if true=true then !(g_FTx x.2.2.1 x.2.2.2.2.2.2).yes==(g_FTx x.2.2.2.2.2.1 x.2.2.2.2.2.2).yes else (g_FTx x.2.2.1 x.2.2.2.2.2.2).yes==(g_FTx x.2.2.2.2.2.1 x.2.2.2.2.2.2).yes)=true->false=true))/\(((g_FTx x.2.2.1 x.2.2.2.2.2.2).tx != (g_FTx x.2.2.2.2.2.1 x.2.2.2.2.2.2).tx)=true->false=true))/\(decide (zi x.2.2.2.2.2.2<zi x.2.2.1.length)=false->∃ (b:Disk×Int),((q_e x.1 b.1.notes/\x.2.1=b.1.safe)/\(froHr (List.take n_2000 l)).tx=b.2)/\(∃ (b_11:Disk×Int),((q_e x.2.2.2.1 b_11.1.notes/\x.2.2.2.2.1=b_11.1.safe)/\(froHr (List.take n_2000 l)).tx=b_11.2)/\(((if diskB b.1=true then ofN b.1.notes b.2 else i_0)==if diskB b_11.1=true then ofN b_11.1.notes b_11.2 else i_0)=true->∃ (b:Disk×Int),((q_e x.1 b.1.notes/\x.2.1=b.1.safe)/\(froHr (List.take n_2000 r)).tx=b.2)/\(∃ (b_12:Disk×Int),((q_e x.2.2.2.1 b_12.1.notes/\x.2.2.2.2.1=b_12.1.safe)/\(froHr (List.take n_2000 r)).tx=b_12.2)/\((if diskB b.1=true then ofN b.1.notes b.2 else i_0)==if diskB b_12.1=true then ofN b_12.1.notes b_12.2 else i_0)=true))/\(((if diskB b.1=true then ofN b.1.notes b.2 else i_0)==if diskB b_11.1=true then ofN b_11.1.notes b_11.2 else i_0)=false->false=true))))))/\(((zi (hearB b_8.1 b_8.2).1.way.length) != (zi (hearB b_10.1 b_10.2).1.way.length))=true->false=true)))))/\(((froHr (List.take n_2000 b)).tx==(froHr (List.take n_2000 b_1)).tx)=true->k_1))/\(((froHr (List.take n_2000 b_1)).to != i_0)=true->k_1))/\(((froHr (List.take n_2000 b)).to != i_0)=true->k_1))/\((!msgB b_7)=true->k_1))/\((!msgB b_6)=true->k_1))/\((!froB b_5)=true->k_1))))))))/\(decide ((zi l.length)>i_1048576)=true->true=true))=_ by kernel_rfl) ?_
 delta i_0 i_1 i_4 wr_ zi t_I q_I n_0 t_U q_U n_2000 i_12 y_10 t_e q_e i_120 g_FTx t_h q_h i_1048576 y_34
 simp (config:={ maxSteps:=2000000 }) only [zza,zzb,true_and,and_true,and_self,ne_eq,cI_app,cWrtO_app,cWrtS_app,cWrtO_1,cItemO_1,opr_ex,zcast,frz_nil,nil_map,Option.getD_none,Option.getD_some,if_true]
 generalize (frontD (List.take 2000 l) 0 12).1=f
 generalize froHr (List.take 2000 l)=m
 generalize froHr (List.take 2000 r)=n
 refine fun _ _=>⟨hpre.1,hpre.2,fun h=>by simp at h,fun _=>⟨fun h1=>⟨fun h2=>⟨fun h3=>⟨fun h4=>⟨fun h5=>⟨fun h6=>⟨fun _=>⟨(),trivial⟩,fun h7=>?_⟩,fun _=>⟨(),trivial⟩⟩,fun _=>⟨(),trivial⟩⟩,fun _=>⟨(),trivial⟩⟩,fun _=>⟨(),trivial⟩⟩,fun _=>⟨(),trivial⟩⟩,fun _=>⟨(),trivial⟩⟩⟩
 simp only [Bool.not_eq_false'] at h1 h2 h3
 have h4:m.to=0:=by simpa using h4
 have h5:n.to=0:=by simpa using h5
 have hf:=froB_iff.1 h1
 have hm:=(to_front h2 h4).2.1
 have hn:=(to_front h3 h5).2.1
 have hl:f.disk.notes.length+4<=120:=by
  have:=(diskB_small hf.fd).2.1
  rw [IntWalk.i64_in _ (by omega)] at h7
  omega
 have em:∀ {f:Front},okF f->hearB f m=hearF f m:=fun {f} hf=>by simp only [hearB,froB_iff.2 hf,h2,h4,decide_true,Bool.and_self,if_true]
 have en:∀ {f:Front},okF f->hearB f n=hearF f n:=fun {f} hf=>by simp only [hearB,froB_iff.2 hf,h3,h5,decide_true,Bool.and_self,if_true]
 rw [em hf,en hf,en (hear_ok hf hm),em (hear_ok hf hn)]
 obtain ⟨q1,q2,q3,q4⟩:=hear_apart hf hm hn h6 hl
 have hY:=hear_ok (hear_ok hf hm) hn
 have hV:=hear_ok (hear_ok hf hn) hm
 generalize (hearF (hearF f m).1 n).1=Y at *
 generalize (hearF (hearF f n).1 m).1=V at *
 obtain ⟨⟨yn,ys⟩,yw⟩:=Y
 obtain ⟨⟨vn,vs⟩,vw⟩:=V
 simp only at q1 q2 q3 q4 ⊢
 subst q1
 have hw:yw.length<=30:=hY.wl
 refine ⟨fun _=>⟨fun h=>absurd q2 h,fun _=>⟨fun z=>z.1=yn/\z.2.1=ys/\z.2.2.1=yw/\z.2.2.2.1=vn/\z.2.2.2.2.1=vs/\z.2.2.2.2.2.1=yw/\z.2.2.2.2.2.2<=yw.length,⟨rfl,rfl,rfl,rfl,rfl,rfl,by simp⟩,fun z=>yw.length-z.2.2.2.2.2.2,?_⟩⟩,fun h=>absurd rfl h⟩
 intro a a1 a2 a3 a4 a5 k hz
 simp only at hz
 obtain ⟨g1,g2,g3,g4,g5,g6,hk⟩:=hz
 subst g1 g2 g3 g4 g5
 subst g6
 refine ⟨fun hlt=>⟨by omega,hlt,by omega,hlt,⟨fun _=>⟨fun _=>⟨fun _=>⟨fun h=>by simp at h,fun _=>⟨k+1,wrapN (by omega),⟨rfl,rfl,rfl,rfl,rfl,rfl,by simp only;omega⟩,by simp only;omega⟩⟩,fun h=>by simp at h⟩,fun h=>by simp at h⟩,fun h=>absurd rfl h⟩⟩,fun hge=>?_⟩
 rw [if_pos (show diskB _=true from hY.fd),if_pos (show diskB _=true from hV.fd),q3,q4,if_pos (show diskB _=true from hY.fd),if_pos (show diskB _=true from hV.fd)]
 exact ⟨fun _=>rfl,fun h=>absurd rfl h⟩
end Go.Proofs.AI
