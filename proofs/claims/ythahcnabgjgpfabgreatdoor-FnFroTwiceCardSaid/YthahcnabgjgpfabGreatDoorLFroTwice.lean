/- What the function of this law does, in data. Conditions: none. -/
import Derived.KernelRfl
import Derived.IntWalk
import Derived.Test.YthahcnabgjgpfabGreatDoorProg
import Derived.Test.YthahcnabgjgpfabGreatDoorK05
namespace Go.Proofs.AI
open Go.RowKit Go.Proofs
set_option linter.unusedVariables false
set_option linter.unusedSimpArgs false
set_option maxRecDepth 100000
abbrev i_8:Int:=8
abbrev y_26:Type:=List Int×Nat×Int×Int×Int×Int
abbrev y_27:Type:=List Int×Nat×Int×Int×Int×Int×Int×Int×Int×Int×Int×Int×Int
end Go.Proofs.AI
namespace Go.Proofs.AI
set_option linter.unusedVariables false
set_option linter.unusedSimpArgs false
theorem ofN_app (ns:List Note) (n:Note) (tx:Int):ofN (ns++[n]) tx=if n.tx=tx/\n.kind≠4 then n.kind else ofN ns tx:=by
 simp only [ofN,List.foldl_append,List.foldl_cons,List.foldl_nil,ofS]
theorem disk_add {d:Disk} {n:Note} {s:Int} (hd:diskB d=true) (hn:noteB n=true) (hl:d.notes.length≠120) (hs:s=d.safe∨s=(d.notes.length:Int)+1):diskB ⟨d.notes++[n],s⟩=true:=by
 obtain ⟨_,g2,g3,g4⟩:=diskB_small hd
 simp only [diskB,List.length_append,List.length_singleton,Bool.and_eq_true,decide_eq_true_eq,List.all_append,List.all_cons,List.all_nil,Bool.and_true,hn,and_true]
 refine ⟨⟨by omega,?_⟩,List.all_eq_true.2 g4⟩
 simp only [inR,Bool.and_eq_true,decide_eq_true_eq]
 omega
end Go.Proofs.AI
namespace Go.Proofs.AI
set_option linter.unusedVariables false
set_option linter.unusedSimpArgs false
theorem okT_app {ns:List Note} {n:Note} {t:FTx} (h:okT ns t) (hn:n.kind=4∨n.tx≠t.tx):okT (ns++[n]) t:=by
 refine ⟨h.tx,h.can,h.know,?_,h.op⟩
 rw [h.yes,ofN_app,if_neg]
 rintro ⟨h1,h2⟩
 exact hn.elim h2 (fun h3=>h3 h1)
theorem okF.tx_ne {f:Front} (h:okF f) {i j:Nat} (hi:i<f.way.length) (hj:j<f.way.length) (hij:i≠j):(f.way.getD i dFTx).tx≠(f.way.getD j dFTx).tx:=by
 rcases Nat.lt_or_gt_of_ne hij with h1 | h1
 ·have:=pw_at h.ws h1 hj;omega
 ·have:=pw_at h.ws h1 hi;omega
theorem gone_ok {f:Front} (h:okF f) (k:Nat):okF (goneF f k):=by
 refine ⟨h.fd,?_,h.kd,h.ws.sublist (List.eraseIdx_sublist ..),fun t ht=>h.ok t (List.mem_of_mem_eraseIdx ht)⟩
 have:=h.wl
 simp only [goneF,List.length_eraseIdx]
 split<;>omega
theorem noF_ok {f:Front} (h:okF f) (k:Nat):okF (noF f k).1:=gone_ok h k
theorem set_pw {l:List FTx} (h:l.Pairwise fun a b=>a.tx<b.tx) {k:Nat} {t:FTx} (ht:t.tx=(l.getD k dFTx).tx):(l.set k t).Pairwise fun a b=>a.tx<b.tx:=by
 refine List.pairwise_iff_getElem.2 fun i j hi hj hij=>?_
 simp only [List.length_set] at hi hj
 have:=pw_at h hij hj
 rw [getD_lt hi,getD_lt hj] at this
 simp only [List.getElem_set]
 split
 ·rename_i e
  subst e
  rw [if_neg (by omega),ht,getD_lt hi];exact this
 ·split
  ·rename_i e
   subst e
   rw [ht,getD_lt hj];exact this
  ·exact this
theorem set_ok {f:Front} (h:okF f) {k:Nat} {t:FTx} {d:Disk} (hk:k<f.way.length) (hd:diskB d=true) (hkd:∀ n∈d.notes,n.kind=2∨n.kind=4) (ht:t.tx=(f.way.getD k dFTx).tx) (hok:okT d.notes t)
  (ho:∀ u∈f.way,u.tx≠t.tx->okT d.notes u):okF ⟨d,f.way.set k t⟩:=by
 refine ⟨hd,by simpa using h.wl,hkd,set_pw h.ws ht,fun u hu=>?_⟩
 obtain ⟨i,hi,rfl⟩:=List.getElem_of_mem hu
 simp only [List.getElem_set]
 split
 ·exact hok
 ·rename_i hne
  have hi:i<f.way.length:=by simpa using hi
  refine ho _ (List.getElem_mem _) ?_
  have:=h.tx_ne hi hk (fun e=>hne e.symm)
  rw [getD_lt hi] at this
  rw [ht];exact this
theorem setT_ok {f:Front} (h:okF f) {k:Nat} {t:FTx} (hk:k<f.way.length) (ht:t.tx=(f.way.getD k dFTx).tx) (hok:okT f.disk.notes t):okF (setT f k t) :=
 set_ok h hk h.fd h.kd ht hok fun u hu _=>h.ok u hu
theorem addD_some {d:Disk} {n:Note} {s:Bool} (hd:diskB d=true) (hn:noteB n=true) (hs:(addD d n s).2=true):addD d n s=(⟨d.notes++[n],if s=true then (d.notes.length:Int)+1 else d.safe⟩,true)/\d.notes.length≠120:=by
 simp only [addD,hd,hn,Bool.and_self,if_true] at hs ⊢
 split at hs
 ·cases hs
 ·rename_i h
  exact ⟨by rw [if_neg h],h⟩
theorem can_ok {f:Front} (h:okF f) {k:Nat} {p:Int} (hk:k<f.way.length) (hp:1<=p/\p<=3) (hy:(f.way.getD k dFTx).yes=false):okF (canF f k p).1:=by
 have ht:=h.at_ hk
 have h1:okF (setT f k (canT (f.way.getD k dFTx) p)):=setT_ok h hk rfl ⟨ht.tx,putP_ris ht.can hp,ht.know,ht.yes,ht.op⟩
 simp only [canF]
 split
 ·exact h1
 ·split
  ·rename_i hs
   have hn:=note_yes (k:=2) (.inl rfl) ht.tx
   obtain ⟨e,hl⟩:=addD_some h.fd hn hs
   rw [e]
   refine set_ok h hk (disk_add h.fd hn hl (.inr (by simp))) (fun n hn=>?_) rfl ⟨ht.tx,putP_ris ht.can hp,ht.know,?_,fun hc=>by cases hc⟩ fun u hu hne=>okT_app (h.ok u hu) (.inr (fun e=>hne e.symm))
   ·rcases List.mem_append.1 hn with hn | hn
    ·exact h.kd n hn
    ·simp at hn;subst hn;exact .inl rfl
   ·show true=_
    rw [ofN_app,if_pos ⟨rfl,(by decide:(2:Int)≠4)⟩]<;>rfl
  ·exact noF_ok h1 k
theorem know_ok {f:Front} (h:okF f) {k:Nat} {p:Int} (hk:k<f.way.length) (hp:1<=p/\p<=3) (hy:(f.way.getD k dFTx).yes=true):okF (knowF f k p):=by
 have ht:=h.at_ hk
 have h1:okF (setT f k (knowT (f.way.getD k dFTx) p)):=setT_ok h hk rfl ⟨ht.tx,ht.can,putP_ris ht.know hp,ht.yes,fun hc=>by simp only [knowT] at hc;rw [hy] at hc;cases hc⟩
 simp only [knowF]
 split
 ·exact h1
 ·split
  ·rename_i hs
   have hn:=note_yes (k:=4) (.inr (.inr rfl)) ht.tx
   obtain ⟨e,hl⟩:=addD_some h.fd hn hs
   rw [e]
   refine ⟨disk_add h.fd hn hl (.inl (by simp)),?_,fun n hn=>?_,h.ws.sublist (List.eraseIdx_sublist ..),fun u hu=>okT_app (h.ok u (List.mem_of_mem_eraseIdx hu)) (.inl rfl)⟩
   ·have:=h.wl
    simp only [List.length_eraseIdx]
    split<;>omega
   ·rcases List.mem_append.1 hn with hn | hn
    ·exact h.kd n hn
    ·simp at hn;subst hn;exact .inr rfl
  ·exact h1
inductive FroC (f:Front) (m:Msg):Prop
 | know (k:Nat):m.kind=6->k<f.way.length->(f.way.getD k dFTx).tx=m.tx->(f.way.getD k dFTx).yes=true->atF f.way m.tx=k->hearF f m=(knowF f k m.frm,[],[])->FroC f m
 | can (k:Nat):m.kind=4->k<f.way.length->(f.way.getD k dFTx).tx=m.tx->(f.way.getD k dFTx).yes=false->atF f.way m.tx=k->hearF f m=canF f k m.frm->FroC f m
 | cant (k:Nat):m.kind=5->k<f.way.length->(f.way.getD k dFTx).tx=m.tx->(f.way.getD k dFTx).yes=false->atF f.way m.tx=k->hearF f m=noF f k->FroC f m
 | what:(m.kind=4∨m.kind=7)->(m.kind=4->∀ k,k<f.way.length->(f.way.getD k dFTx).tx=m.tx->(f.way.getD k dFTx).yes=true)->hearF f m=(f,whatF f m,[])->FroC f m
 | vain:m.kind≠4->m.kind≠7->(m.kind=6->∀ k,k<f.way.length->(f.way.getD k dFTx).tx=m.tx->(f.way.getD k dFTx).yes=false)->(m.kind=5->∀ k,k<f.way.length->(f.way.getD k dFTx).tx=m.tx->(f.way.getD k dFTx).yes=true)->hearF f m=(f,[],[])->FroC f m
theorem fro_cases {f:Front} (h:okF f) (m:Msg):FroC f m:=by
 have hat:=atF_lt (w:=f.way) (tx:=m.tx)
 have huni:∀ k,k<f.way.length->(f.way.getD k dFTx).tx=m.tx->atF f.way m.tx=(k:Int):=fun k hk e=>e▸h.at_eq hk
 by_cases c1:m.kind=6/\0<=atF f.way m.tx/\yesAt f (atF f.way m.tx)=true
 ·obtain ⟨a1,a2,a3⟩:=c1
  exact .know _ a1 (hat a2).1 (hat a2).2 a3 (by omega) (by simp only [hearF,if_pos (⟨a1,a2,a3⟩:m.kind=6/\0<=atF f.way m.tx/\yesAt f (atF f.way m.tx)=true)])
 by_cases c2:m.kind=4/\0<=atF f.way m.tx/\yesAt f (atF f.way m.tx)=false
 ·obtain ⟨a1,a2,a3⟩:=c2
  exact .can _ a1 (hat a2).1 (hat a2).2 a3 (by omega) (by simp only [hearF,if_neg c1,if_pos (⟨a1,a2,a3⟩:m.kind=4/\0<=atF f.way m.tx/\yesAt f (atF f.way m.tx)=false)])
 by_cases c3:m.kind=5/\0<=atF f.way m.tx/\yesAt f (atF f.way m.tx)=false
 ·obtain ⟨a1,a2,a3⟩:=c3
  exact .cant _ a1 (hat a2).1 (hat a2).2 a3 (by omega) (by simp only [hearF,if_neg c1,if_neg c2,if_pos (⟨a1,a2,a3⟩:m.kind=5/\0<=atF f.way m.tx/\yesAt f (atF f.way m.tx)=false)])
 by_cases c4:m.kind=4∨m.kind=7
 ·refine .what c4 (fun a1 k hk e=>?_) (by simp only [hearF,if_neg c1,if_neg c2,if_neg c3,if_pos c4])
  have he:=huni k hk e
  rw [he] at c2
  rcases Bool.eq_false_or_eq_true (f.way.getD k dFTx).yes with hy | hy
  ·exact hy
  ·exact absurd ⟨a1,by omega,by simpa [yesAt] using hy⟩ c2
 ·refine .vain (fun e=>c4 (.inl e)) (fun e=>c4 (.inr e)) (fun a1 k hk e=>?_) (fun a1 k hk e=>?_) (by simp only [hearF,if_neg c1,if_neg c2,if_neg c3,if_neg c4])
  ·have he:=huni k hk e
   rw [he] at c1
   rcases Bool.eq_false_or_eq_true (f.way.getD k dFTx).yes with hy | hy
   ·exact absurd ⟨a1,by omega,by simpa [yesAt] using hy⟩ c1
   ·exact hy
  ·have he:=huni k hk e
   rw [he] at c3
   rcases Bool.eq_false_or_eq_true (f.way.getD k dFTx).yes with hy | hy
   ·exact hy
   ·exact absurd ⟨a1,by omega,by simpa [yesAt] using hy⟩ c3
theorem hear_ok {f:Front} (h:okF f) {m:Msg} (hm:1<=m.frm/\m.frm<=3):okF (hearF f m).1:=by
 cases fro_cases h m with
 | know k a1 a2 a3 a4 a5 e=>rw [e];exact know_ok h a2 hm a4
 | can k a1 a2 a3 a4 a5 e=>rw [e];exact can_ok h a2 hm a4
 | cant k a1 a2 a3 a4 a5 e=>rw [e];exact noF_ok h k
 | what a1 a2 e=>rw [e];exact h
 | vain a1 a2 a3 a4 e=>rw [e];exact h
end Go.Proofs.AI
namespace Go.Proofs.AI
open Go.RowKit Go.Proofs
set_option linter.unusedVariables false
set_option linter.unusedSimpArgs false
set_option maxRecDepth 100000
abbrev msgK (l:List Int) (p:Nat):Int:=1+pickB l p 7
def msg0 (l:List Int) (p:Nat):Msg×Nat :=
 let to:=if msgK l p<=3 then 1+pickB l (p+2) 3 else 0
 let frm:=if msgK l p<=3 then 0 else 1+pickB l (p+2) 3
 if msgK l p=1 then (⟨msgK l p,to,frm,pickB l (p+1) 6,(opB l (p+3) 0).1⟩,(opB l (p+3) 0).2) else (⟨msgK l p,to,frm,pickB l (p+1) 6,dOpr⟩,p+3)
def msgBent (l:List Int) (p:Nat) (m:Msg):Msg×Nat :=
 let k:=pickB l p 5
 if k=0 then (⟨[0,8].getD (pickB l (p+1) 2).toNat 0,m.to,m.frm,m.tx,m.op⟩,p+2)
 else if k=1 then (⟨m.kind,[-1,4,0,1].getD (pickB l (p+1) 4).toNat 0,m.frm,m.tx,m.op⟩,p+2)
 else if k=2 then (⟨m.kind,m.to,[-1,4,0,1].getD (pickB l (p+1) 4).toNat 0,m.tx,m.op⟩,p+2)
 else if k=3 then (⟨m.kind,m.to,m.frm,[-1,30].getD (pickB l (p+1) 2).toNat 0,m.op⟩,p+2)
 else (⟨m.kind,m.to,m.frm,m.tx,(opB l (p+1) 1).1⟩,(opB l (p+1) 1).2)
def msgD (l:List Int) (p:Nat) (n:Int):Msg×Nat :=
 let a:=msg0 l p
 let q:=oddB l a.2 n
 if q.1=true then msgBent l q.2 a.1 else (a.1,q.2)
theorem msg0_le {l:List Int} {p:Nat} (h:rdB l p 20):(msg0 l p).2<=p+11:=by
 have:=op_le (l:=l) (p:=p+3) 0 (rdB_le h (by omega))
 simp only [msg0]
 split<;>simp only<;>omega
theorem spec_l20Msg_ok (l:List Int) (p:Nat) (n:Int) (hpre:rdB l p 40/\n<1000000):FunOK Tryz.prog 73 2 [0] [(0,kRd l p),(1,kI n)] (·=[(2,kMsg (msgD l p n).1),(0,kRd l (msgD l p n).2)]):=by
 refine fun_to (E:=⟨tab,ctOf [spec_rd_pick_c,spec_l20Op_c,spec_rd_odd_c],70,[0],[(0,[0,1,4]),(1,[0,1,4,5]),(2,[0,1,4,5,14]),(3,[0,1,4,5]),(4,[0,1,4,5]),(5,[0,1,4,5,25]),(6,[0,1,4,5]),(7,[0,4,5,31]),(8,[0,4,5,33]),(9,[0,4,5]),(10,[0,4,5,33,37]),(11,[0,4,5]),(12,[0,4,5,33,45]),(13,[0,4,5]),(14,[0,4,5,33,53]),(15,[0,4,5]),(16,[0,4,5,61]),(17,[0,4,5]),(18,[0,4])],[],[],[(30002,⟨List Int×Nat×Int×Int×Int×Int,fun x=>[(0,⟨.box,[.c (sU (x.1)),.c (.n .i64 (x.2.1:Int))],[]⟩),(1,(k1 (.n .i64 n))),(4,⟨.box,[.c (.n .i64 ((0:Int))),.c (.n .i64 ((0:Int))),.c (.n .i64 ((0:Int))),.c (.n .i64 ((0:Int))),.c (.n .i64 ((0:Int))),.c (.n .i64 ((0:Int))),.c (.n .i64 ((0:Int))),.c (.n .i64 ((0:Int))),.c (.n .i64 ((0:Int))),.c (.n .i64 ((0:Int))),.c (.n .i64 ((0:Int)))],[]⟩),(5,⟨.box,[.c (.n .i64 (x.2.2.1)),.c (.n .i64 (x.2.2.2.1)),.c (.n .i64 (x.2.2.2.2.1)),.c (.n .i64 (x.2.2.2.2.2)),.c (.n .i64 ((0:Int))),.c (.n .i64 ((0:Int))),.c (.n .i64 ((0:Int))),.c (.n .i64 ((0:Int))),.c (.n .i64 ((0:Int))),.c (.n .i64 ((0:Int))),.c (.n .i64 ((0:Int)))],[]⟩)]⟩),(30005,⟨List Int×Nat×Int×Int×Int×Int×Int×Int×Int×Int×Int×Int×Int,fun x=>[(0,⟨.box,[.c (sU (x.1)),.c (.n .i64 (x.2.1:Int))],[]⟩),(1,(k1 (.n .i64 n))),(4,⟨.box,[.c (.n .i64 ((0:Int))),.c (.n .i64 ((0:Int))),.c (.n .i64 ((0:Int))),.c (.n .i64 ((0:Int))),.c (.n .i64 ((0:Int))),.c (.n .i64 ((0:Int))),.c (.n .i64 ((0:Int))),.c (.n .i64 ((0:Int))),.c (.n .i64 ((0:Int))),.c (.n .i64 ((0:Int))),.c (.n .i64 ((0:Int)))],[]⟩),(5,⟨.box,[.c (.n .i64 (x.2.2.1)),.c (.n .i64 (x.2.2.2.1)),.c (.n .i64 (x.2.2.2.2.1)),.c (.n .i64 (x.2.2.2.2.2.1)),.c (.n .i64 (x.2.2.2.2.2.2.1)),.c (.n .i64 (x.2.2.2.2.2.2.2.1)),.c (.n .i64 (x.2.2.2.2.2.2.2.2.1)),.c (.n .i64 (x.2.2.2.2.2.2.2.2.2.1)),.c (.n .i64 (x.2.2.2.2.2.2.2.2.2.2.1)),.c (.n .i64 (x.2.2.2.2.2.2.2.2.2.2.2.1)),.c (.n .i64 (x.2.2.2.2.2.2.2.2.2.2.2.2))],[]⟩)]⟩)],[]⟩) tab_ok mixed Tryz.func73 rfl Tryz.ntmps73 (rvs:=[.cell 4 46]) Tryz.results73 rfl fun hl=>?_
 refine cast (show (let k_2:Prop:=i_0=i_0/\i_0=i_0/\i_0=i_0/\i_0=i_0/\i_0=i_0/\i_0=i_0/\i_0=i_0;let k_1:Prop:=i_0=i_0/\i_0=i_0/\i_0=i_0/\i_0=i_0/\k_2;∃ (b:y_6),((q_U l b.1/\zi p=zi b.2.1)/\i_7=b.2.2)/\rdB b.1 b.2.1 n_1/\(∃ (b_1:y_6),((q_U b.1 b_1.1/\(zi (b.2.1+n_1))=zi b_1.2.1)/\i_6=b_1.2.2)/\rdB b_1.1 b_1.2.1 n_1/\(∃ (post:y_26->Prop),((decide (wr_ (i_1+pickB b.1 b.2.1 b.2.2)<=i_3)=true->∃ (b_2:y_6),((q_U b_1.1 b_2.1/\(zi (b_1.2.1+n_1))=zi b_2.2.1)/\i_3=b_2.2.2)/\rdB b_2.1 b_2.2.1 n_1/\(∃ (x:y_26),((q_U b_2.1 x.1/\(zi (b_2.2.1+n_1))=zi x.2.1)/\n=n/\k_1/\wr_ (i_1+pickB b.1 b.2.1 b.2.2)=x.2.2.1/\wr_ (i_1+pickB b_2.1 b_2.2.1 b_2.2.2)=x.2.2.2.1/\i_0=x.2.2.2.2.1/\pickB b_1.1 b_1.2.1 b_1.2.2=x.2.2.2.2.2/\k_2)/\post x))/\(decide (wr_ (i_1+pickB b.1 b.2.1 b.2.2)<=i_3)=false->∃ (b_2:y_6),((q_U b_1.1 b_2.1/\(zi (b_1.2.1+n_1))=zi b_2.2.1)/\i_3=b_2.2.2)/\rdB b_2.1 b_2.2.1 n_1/\(∃ (x:y_26),((q_U b_2.1 x.1/\(zi (b_2.2.1+n_1))=zi x.2.1)/\n=n/\k_1/\wr_ (i_1+pickB b.1 b.2.1 b.2.2)=x.2.2.1/\i_0=x.2.2.2.1/\wr_ (i_1+pickB b_2.1 b_2.2.1 b_2.2.2)=x.2.2.2.2.1/\pickB b_1.1 b_1.2.1 b_1.2.2=x.2.2.2.2.2/\k_2)/\post x)))/\(∀ (x:y_26),post x->∃ (post:y_27->Prop),(((x.2.2.1==i_1)=true->∃ (b:y_6),((q_U x.1 b.1/\zi x.2.1=zi b.2.1)/\i_0=b.2.2)/\(rdB b.1 b.2.1 n_8/\b.2.2<i_1000000)/\(∃ (x_1:y_27),((q_U b.1 x_1.1/\(zi (opB b.1 b.2.1 b.2.2).2)=zi x_1.2.1)/\n=n/\k_1/\x.2.2.1=x_1.2.2.1/\x.2.2.2.1=x_1.2.2.2.1/\x.2.2.2.2.1=x_1.2.2.2.2.1/\x.2.2.2.2.2=x_1.2.2.2.2.2.1/\(opB b.1 b.2.1 b.2.2).1.kind=x_1.2.2.2.2.2.2.1/\(opB b.1 b.2.1 b.2.2).1.who=x_1.2.2.2.2.2.2.2.1/\(opB b.1 b.2.1 b.2.2).1.inn=x_1.2.2.2.2.2.2.2.2.1/\(opB b.1 b.2.1 b.2.2).1.code=x_1.2.2.2.2.2.2.2.2.2.1/\(opB b.1 b.2.1 b.2.2).1.sec=x_1.2.2.2.2.2.2.2.2.2.2.1/\(opB b.1 b.2.1 b.2.2).1.fam=x_1.2.2.2.2.2.2.2.2.2.2.2.1/\(opB b.1 b.2.1 b.2.2).1.gen=x_1.2.2.2.2.2.2.2.2.2.2.2.2)/\post x_1))/\((x.2.2.1==i_1)=false->∃ (x_1:y_27),((q_U x.1 x_1.1/\zi x.2.1=zi x_1.2.1)/\n=n/\k_1/\x.2.2.1=x_1.2.2.1/\x.2.2.2.1=x_1.2.2.2.1/\x.2.2.2.2.1=x_1.2.2.2.2.1/\x.2.2.2.2.2=x_1.2.2.2.2.2.1/\i_0=x_1.2.2.2.2.2.2.1/\i_0=x_1.2.2.2.2.2.2.2.1/\i_0=x_1.2.2.2.2.2.2.2.2.1/\i_0=x_1.2.2.2.2.2.2.2.2.2.1/\i_0=x_1.2.2.2.2.2.2.2.2.2.2.1/\i_0=x_1.2.2.2.2.2.2.2.2.2.2.2.1/\i_0=x_1.2.2.2.2.2.2.2.2.2.2.2.2)/\post x_1))/\(∀ (x:y_27),let k_9:Prop:=x.2.2.1=(msgD l p n).1.kind;let k_8:Prop:=x.2.2.2.1=(msgD l p n).1.to;let k_7:Prop:=x.2.2.2.2.1=(msgD l p n).1.frm;let k_6:Prop:=x.2.2.2.2.2.2.1=(msgD l p n).1.op.kind/\x.2.2.2.2.2.2.2.1=(msgD l p n).1.op.who/\x.2.2.2.2.2.2.2.2.1=(msgD l p n).1.op.inn/\x.2.2.2.2.2.2.2.2.2.1=(msgD l p n).1.op.code/\x.2.2.2.2.2.2.2.2.2.2.1=(msgD l p n).1.op.sec/\x.2.2.2.2.2.2.2.2.2.2.2.1=(msgD l p n).1.op.fam/\x.2.2.2.2.2.2.2.2.2.2.2.2=(msgD l p n).1.op.gen;let k_5:Prop:=x.2.2.2.2.2.1=(msgD l p n).1.tx/\k_6;let k_4:Prop:=k_7/\k_5;let k_3:Prop:=k_8/\k_4;post x->∃ (b:y_6),((q_U x.1 b.1/\zi x.2.1=zi b.2.1)/\n=b.2.2)/\(rdB b.1 b.2.1 n_1/\b.2.2<i_1000000)/\((oddB b.1 b.2.1 b.2.2).1=true->∃ (b_2:y_6),((q_U b.1 b_2.1/\(zi (oddB b.1 b.2.1 b.2.2).2)=zi b_2.2.1)/\i_5=b_2.2.2)/\rdB b_2.1 b_2.2.1 n_1/\((pickB b_2.1 b_2.2.1 b_2.2.2==i_0)=true->∃ (b:y_6),((q_U b_2.1 b.1/\(zi (b_2.2.1+n_1))=zi b.2.1)/\i_2=b.2.2)/\rdB b.1 b.2.1 n_1/\(i_0<=pickB b.1 b.2.1 b.2.2/\pickB b.1 b.2.1 b.2.2<zi n_2)/\(pickB b.1 b.2.1 b.2.2).toNat<n_2/\([i_0,i_8].getD (pickB b.1 b.2.1 b.2.2).toNat i_0=(msgD l p n).1.kind/\k_3)/\q_U b.1 l/\(zi (b.2.1+n_1))=(zi (msgD l p n).2))/\((pickB b_2.1 b_2.2.1 b_2.2.2==i_0)=false->((pickB b_2.1 b_2.2.1 b_2.2.2==i_1)=true->∃ (b:y_6),((q_U b_2.1 b.1/\(zi (b_2.2.1+n_1))=zi b.2.1)/\i_4=b.2.2)/\rdB b.1 b.2.1 n_1/\(i_0<=pickB b.1 b.2.1 b.2.2/\pickB b.1 b.2.1 b.2.2<zi n_4)/\(pickB b.1 b.2.1 b.2.2).toNat<n_4/\(k_9/\[(-1:Int),i_4,i_0,i_1].getD (pickB b.1 b.2.1 b.2.2).toNat i_0=(msgD l p n).1.to/\k_4)/\q_U b.1 l/\(zi (b.2.1+n_1))=(zi (msgD l p n).2))/\((pickB b_2.1 b_2.2.1 b_2.2.2==i_1)=false->((pickB b_2.1 b_2.2.1 b_2.2.2==i_2)=true->∃ (b:y_6),((q_U b_2.1 b.1/\(zi (b_2.2.1+n_1))=zi b.2.1)/\i_4=b.2.2)/\rdB b.1 b.2.1 n_1/\(i_0<=pickB b.1 b.2.1 b.2.2/\pickB b.1 b.2.1 b.2.2<zi n_4)/\(pickB b.1 b.2.1 b.2.2).toNat<n_4/\(k_9/\k_8/\[(-1:Int),i_4,i_0,i_1].getD (pickB b.1 b.2.1 b.2.2).toNat i_0=(msgD l p n).1.frm/\k_5)/\q_U b.1 l/\(zi (b.2.1+n_1))=(zi (msgD l p n).2))/\((pickB b_2.1 b_2.2.1 b_2.2.2==i_2)=false->((pickB b_2.1 b_2.2.1 b_2.2.2==i_3)=true->∃ (b:y_6),((q_U b_2.1 b.1/\(zi (b_2.2.1+n_1))=zi b.2.1)/\i_2=b.2.2)/\rdB b.1 b.2.1 n_1/\(i_0<=pickB b.1 b.2.1 b.2.2/\pickB b.1 b.2.1 b.2.2<zi n_2)/\(pickB b.1 b.2.1 b.2.2).toNat<n_2/\(k_9/\k_8/\k_7/\[(-1:Int),i_30].getD (pickB b.1 b.2.1 b.2.2).toNat i_0=(msgD l p n).1.tx/\k_6)/\q_U b.1 l/\(zi (b.2.1+n_1))=(zi (msgD l p n).2))/\((pickB b_2.1 b_2.2.1 b_2.2.2==i_3)=false->∃ (b:y_6),((q_U b_2.1 b.1/\(zi (b_2.2.1+n_1))=zi b.2.1)/\i_1=b.2.2)/\(rdB b.1 b.2.1 n_8/\b.2.2<i_1000000)/\(k_9/\k_8/\k_7/\x.2.2.2.2.2.1=(msgD l p n).1.tx/\(opB b.1 b.2.1 b.2.2).1.kind=(msgD l p n).1.op.kind/\(opB b.1 b.2.1 b.2.2).1.who=(msgD l p n).1.op.who/\(opB b.1 b.2.1 b.2.2).1.inn=(msgD l p n).1.op.inn/\(opB b.1 b.2.1 b.2.2).1.code=(msgD l p n).1.op.code/\(opB b.1 b.2.1 b.2.2).1.sec=(msgD l p n).1.op.sec/\(opB b.1 b.2.1 b.2.2).1.fam=(msgD l p n).1.op.fam/\(opB b.1 b.2.1 b.2.2).1.gen=(msgD l p n).1.op.gen)/\q_U b.1 l/\(zi (opB b.1 b.2.1 b.2.2).2)=(zi (msgD l p n).2))))))/\((oddB b.1 b.2.1 b.2.2).1=false->(k_9/\k_3)/\q_U b.1 l/\(zi (oddB b.1 b.2.1 b.2.2).2)=(zi (msgD l p n).2)))))))=_ by kernel_rfl) ?_
 delta i_0 i_1 i_5 i_2 i_3 i_4 wr_ zi n_8 n_1 n_2 i_1000000 t_U q_U i_7 y_6 i_6 n_4 i_30 i_8 y_26 y_27
 have hp:=hpre.1
 have b7:=pick_lt (l:=l) (p:=p) (n:=7) (rdB_le hp (by omega):rdB l p 1) (by omega)
 have b3:=pick_lt (l:=l) (p:=p+2) (n:=3) (rdB_le hp (by omega):rdB l (p+2) 1) (by omega)
 have hm:=msg0_le (l:=l) (p:=p) (rdB_le hp (by omega))
 have e1:IntKind.i64.wrap (1+pickB l p 7)=1+pickB l p 7:=IntWalk.i64_in _ (by omega)
 have e2:IntKind.i64.wrap (1+pickB l (p+2) 3)=1+pickB l (p+2) 3:=IntWalk.i64_in _ (by omega)
 simp only [zza,zzb,true_and,and_true,and_self,ne_eq,cI_app,cWrtO_app,cWrtS_app,cWrtO_1,cItemO_1,opr_ex,zcast,frz_nil,nil_map,Option.getD_none,Option.getD_some]
 simp only [Nat.add_assoc,Nat.reduceAdd,e1,e2]
 refine ⟨rdB_le hp (by omega),rdB_le hp (by omega),fun z=>z=(l,p+3,msgK l p,(if msgK l p<=3 then 1+pickB l (p+2) 3 else 0),(if msgK l p<=3 then 0 else 1+pickB l (p+2) 3),pickB l (p+1) 6),fun h=>⟨rdB_le hp (by omega),by simp only [if_pos h]⟩,fun h=>⟨rdB_le hp (by omega),by simp only [if_neg h]⟩,?_⟩
 intro a q k to frm tx hz
 simp only [Prod.mk.injEq] at hz
 obtain ⟨h1,h2,h3,h4,h5,h6⟩:=hz
 subst h1 h2 h3 h4 h5 h6
 refine ⟨fun z=>z=(a,(msg0 a p).2,(msg0 a p).1.kind,(msg0 a p).1.to,(msg0 a p).1.frm,(msg0 a p).1.tx,(msg0 a p).1.op.kind,(msg0 a p).1.op.who,(msg0 a p).1.op.inn,(msg0 a p).1.op.code,(msg0 a p).1.op.sec,(msg0 a p).1.op.fam,(msg0 a p).1.op.gen),fun h=>⟨rdB_le hp (by omega),by omega,by simp only [msg0,if_pos h]⟩,fun h=>by simp only [msg0,if_neg h];rfl,?_⟩
 intro l q a0 a1 a2 a3 a4 a5 a6 a7 a8 a9 a10 hz
 simp only [Prod.mk.injEq] at hz
 obtain ⟨h0,h1,h2,h3,h4,h5,h6,h7,h8,h9,h10,h11,h12⟩:=hz
 subst h0 h1 h2 h3 h4 h5 h6 h7 h8 h9 h10 h11 h12
 have ho:=odd_le l (msg0 l p).2 n
 have hd:msgD l p n=if (oddB l (msg0 l p).2 n).1=true then msgBent l (oddB l (msg0 l p).2 n).2 (msg0 l p).1 else ((msg0 l p).1,(oddB l (msg0 l p).2 n).2):=rfl
 rw [hd]
 generalize msg0 l p=A at *
 generalize oddB l A.2 n=Q at *
 have b2:=pick_lt (l:=l) (p:=Q.2+1) (n:=2) (rdB_le hp (by omega):rdB l (Q.2+1) 1) (by omega)
 have b4:=pick_lt (l:=l) (p:=Q.2+1) (n:=4) (rdB_le hp (by omega):rdB l (Q.2+1) 1) (by omega)
 refine ⟨rdB_le hp (by omega),hpre.2,fun hq=>⟨rdB_le hp (by omega),?_⟩,fun hq=>?_⟩
 ·rw [if_pos hq]
  refine ⟨fun h0=>⟨rdB_le hp (by omega),b2.1,b2.2,by omega,?_⟩,fun h0=>⟨fun h1=>⟨rdB_le hp (by omega),b4.1,b4.2,by omega,?_⟩,fun h1=>⟨fun h2=>⟨rdB_le hp (by omega),b4.1,b4.2,by omega,?_⟩,fun h2=>⟨fun h3=>⟨rdB_le hp (by omega),b2.1,b2.2,by omega,?_⟩,fun h3=>⟨rdB_le hp (by omega),by omega,?_⟩⟩⟩⟩⟩
  ·simp [msgBent,h0]
  ·simp [msgBent,h1]
  ·simp [msgBent,h2]
  ·simp [msgBent,h3]
  ·simp [msgBent,h0,h1,h2,h3]
 ·rw [hq]
  simp
def spec_l20Msg_c:Con Tryz.prog:=conP [.ptr,.lend] fun (b:List Int×Nat×Int) h=>spec_l20Msg_ok (b.1) (b.2.1) (b.2.2) h
end Go.Proofs.AI
namespace Go.Proofs.AI
set_option linter.unusedVariables false
set_option linter.unusedSimpArgs false
theorem to_front {m:Msg} (h:msgB m=true) (h0:m.to=0):(4<=m.kind/\m.kind<=7)/\(1<=m.frm/\m.frm<=3)/\0<=m.tx/\m.tx<=29:=by
 simp only [msgB,h0] at h
 split at h
 ·simp [inR] at h
 ·split at h
  ·simp [inR] at h
  ·simp [inR] at h;omega
theorem putP_cases {l:List Int} (h:ris3 l) {p:Int} (hp:1<=p/\p<=3):putP (putP l p) p=putP l p/\∀ x∈putP l p,x=p∨x∈l:=by
 have:p=1∨p=2∨p=3:=by omega
 rcases ris3_cases h with rfl | rfl | rfl | rfl | rfl | rfl | rfl | rfl<;>rcases this with rfl | rfl | rfl<;>decide
theorem gone_none {f:Front} (h:okF f) {k:Nat} (hk:k<f.way.length) {d:Disk}:∀ i,i<(f.way.eraseIdx k).length->((f.way.eraseIdx k).getD i dFTx).tx≠(f.way.getD k dFTx).tx:=by
 intro i hi
 rw [List.length_eraseIdx,if_pos hk] at hi
 rw [List.getD_eq_getElem?_getD,List.getElem?_eraseIdx]
 split
 ·rw [<- List.getD_eq_getElem?_getD];exact h.tx_ne (by omega) hk (by omega)
 ·rw [<- List.getD_eq_getElem?_getD];exact h.tx_ne (by omega) hk (by omega)
theorem hear_none {f:Front} (h:okF f) {m:Msg} (hn:∀ i,i<f.way.length->(f.way.getD i dFTx).tx≠m.tx):(hearF f m).1=f/\(hearF f m).2.2=[]:=by
 cases fro_cases h m with
 | know k a1 a2 a3 a4 a5 e=>exact absurd a3 (hn k a2)
 | can k a1 a2 a3 a4 a5 e=>exact absurd a3 (hn k a2)
 | cant k a1 a2 a3 a4 a5 e=>exact absurd a3 (hn k a2)
 | what a1 a2 e=>rw [e];exact ⟨rfl,rfl⟩
 | vain a1 a2 a3 a4 e=>rw [e];exact ⟨rfl,rfl⟩
theorem set_getD {w:List FTx} {k:Nat} (hk:k<w.length) (u:FTx):(w.set k u).getD k dFTx=u:=by
 rw [List.getD_eq_getElem?_getD,List.getElem?_set_self hk]<;>rfl
theorem hear_twice {f:Front} (h:okF f) {m:Msg} (hm:1<=m.frm/\m.frm<=3):(hearF (hearF f m).1 m).1=(hearF f m).1/\(hearF (hearF f m).1 m).2.2=[]:=by
 have hX:=hear_ok h hm
 cases fro_cases h m with
 | know k a1 a2 a3 a4 a5 e =>
  rw [e] at hX ⊢
  have hi:=(putP_cases (h.at_ a2).know hm).1
  have again:∀ {f':Front},f'=setT f k (knowT (f.way.getD k dFTx) m.frm)->okF f'->(¬ (putP (f.way.getD k dFTx).know m.frm).length<3->(addD f.disk ⟨4,(f.way.getD k dFTx).tx,[],[]⟩ false).2≠true)->(hearF f' m).1=f'/\(hearF f' m).2.2=[]:=by
   intro f' e' hX hno
   have hl:k<f'.way.length:=by rw [e'];simpa [setT] using a2
   have hg:f'.way.getD k dFTx=knowT (f.way.getD k dFTx) m.frm:=by rw [e'];exact set_getD a2 _
   have hA:atF f'.way m.tx=(k:Int):=by
    have:=hX.at_eq hl
    rw [hg] at this
    simp only [knowT,a3] at this
    exact this
   have hH:hearF f' m=(knowF f' k m.frm,[],[]):=by
    simp only [hearF,hA,yesAt,Int.toNat_natCast,hg]
    rw [if_pos ⟨a1,by omega,a4⟩]
   rw [hH]
   refine ⟨?_,rfl⟩
   have hset:setT f' k (knowT (f'.way.getD k dFTx) m.frm)=f':=by
    rw [hg,e']
    simp only [setT,knowT,hi,List.set_set]
   simp only [knowF,hg]
   rw [<- hg,hset]
   split
   ·rfl
   ·rename_i hc
    rw [if_neg]
    rw [hg] at hc ⊢
    simp only [knowT,hi] at hc ⊢
    rw [e']
    exact hno hc
  simp only [knowF] at hX ⊢
  split at hX
  ·rename_i hc
   rw [if_pos hc]
   exact again rfl hX (fun hn=>absurd hc hn)
  ·rename_i hc
   rw [if_neg hc]
   split at hX
   ·rename_i hs
    rw [if_pos hs]
    exact hear_none hX (by rw [<- a3];exact gone_none h a2 (d:=f.disk))
   ·rename_i hs
    rw [if_neg hs]
    exact again rfl hX (fun _=>hs)
 | can k a1 a2 a3 a4 a5 e =>
  rw [e] at hX ⊢
  have hi:=(putP_cases (h.at_ a2).can hm).1
  simp only [canF] at hX ⊢
  split at hX
  ·rename_i hc
   rw [if_pos hc]
   simp only at hX ⊢
   generalize e':setT f k (canT (f.way.getD k dFTx) m.frm)=f' at hX ⊢
   have hl:k<f'.way.length:=by rw [<- e'];simpa [setT] using a2
   have hg:f'.way.getD k dFTx=canT (f.way.getD k dFTx) m.frm:=by rw [<- e'];exact set_getD a2 _
   have hA:atF f'.way m.tx=(k:Int):=by
    have:=hX.at_eq hl
    rw [hg] at this
    simp only [canT,a3] at this
    exact this
   have hH:hearF f' m=canF f' k m.frm:=by
    simp only [hearF,hA,yesAt,Int.toNat_natCast,hg]
    rw [if_neg (fun hn=>by omega),if_pos ⟨a1,by omega,a4⟩]
   have hset:setT f' k (canT (f'.way.getD k dFTx) m.frm)=f':=by
    rw [hg,<- e']
    simp only [setT,canT,hi,List.set_set]
   rw [hH]
   simp only [canF,hset]
   rw [if_pos]
   ·exact ⟨rfl,rfl⟩
   ·rw [hg]
    simp only [canT,hi]
    exact hc
  ·rename_i hc
   rw [if_neg hc]
   split at hX
   ·rename_i hs
    rw [if_pos hs]
    simp only at hX ⊢
    generalize hf':(⟨_,f.way.set k _⟩:Front)=f' at hX ⊢
    have hl:k<f'.way.length:=by rw [<- hf'];simpa using a2
    have hg:f'.way.getD k dFTx=yesT (canT (f.way.getD k dFTx) m.frm):=by rw [<- hf'];exact set_getD a2 _
    have hA:atF f'.way m.tx=(k:Int):=by
     have:=hX.at_eq hl
     rw [hg] at this
     simp only [yesT,canT,a3] at this
     exact this
    have hH:hearF f' m=(f',whatF f' m,[]):=by
     simp only [hearF,hA,yesAt,Int.toNat_natCast,hg,yesT]
     rw [if_neg (fun hn=>by omega),if_neg (fun hn=>by simp at hn),if_neg (fun hn=>by omega),if_pos (.inl a1)]
    rw [hH]
    exact ⟨rfl,rfl⟩
   ·rename_i hs
    rw [if_neg hs]
    refine hear_none hX ?_
    have h1:okF (setT f k (canT (f.way.getD k dFTx) m.frm)):=setT_ok h a2 rfl ⟨(h.at_ a2).tx,putP_ris (h.at_ a2).can hm,(h.at_ a2).know,(h.at_ a2).yes,(h.at_ a2).op⟩
    have h2:=gone_none h1 (k:=k) (by simpa [setT] using a2) (d:=f.disk)
    simp only [setT,set_getD a2,canT,a3] at h2
    simp only [noF,goneF,setT,canT,a3]
    exact h2
 | cant k a1 a2 a3 a4 a5 e =>
  rw [e] at hX ⊢
  exact hear_none hX (by rw [<- a3];exact gone_none h a2 (d:=f.disk))
 | what a1 a2 e=>rw [e];rw [e];exact ⟨rfl,rfl⟩
 | vain a1 a2 a3 a4 e=>rw [e];rw [e];exact ⟨rfl,rfl⟩
end Go.Proofs.AI
namespace Go.Proofs.AI
open Go.RowKit Go.Proofs
set_option linter.unusedVariables false
set_option linter.unusedSimpArgs false
set_option maxRecDepth 100000
set_option pp.deepTerms true
set_option pp.maxSteps 40000
theorem spec_FroHear_ok (f:Front) (m:Msg):FunOK Tryz.prog 10 2 [] [(0,kFrontS f),(1,kMsg m)] (·=[(2,⟨.tup [(true,3),(false,1),(false,1)],[.c (oNotes (hearB f m).1.disk.notes),.c (.n .i64 (hearB f m).1.disk.safe),.c (oFTxs (hearB f m).1.way),.c (sMsgs (hearB f m).2.1),.c (sFOuts (hearB f m).2.2)],[]⟩)]):=by
 refine fun_to (E:=⟨tab,ctOf [spec_FroOk_c,spec_MsgOk_c,spec_l6Hear_c,spec_l6Copy_c],38,[],[(0,[2,3,4,8,9,23,24,25,26,30,32,33,35,36,37]),(1,[2,3,4,8,9,22,23,24,25,26,30,32,33,35,36,37]),(2,[4,5,6,8,9,23,24,25,26,30,32,33,35,36,37]),(3,[4,7,8,9,23,24,25,26,30,32,33,35]),(4,[4,5,6,8,9,23,24,25,26,30,32,33,35,36,37])],[],[(2,[(4,[24]),(5,[25])]),(3,[(3,[28]),(4,[30]),(2000003,[4])]),(4,[(1000002,[]),(1000003,[])])],[],[]⟩) tab_ok mixed Tryz.func10 rfl Tryz.ntmps10 (rvs:=[.cell 4 38,.tmp 5,.tmp 6]) Tryz.results10 rfl fun hl=>?_
 refine cast (show (let k_1:Prop:=cnRs nilR=t_f (hearB f m).1.disk.notes/\i_0=(hearB f m).1.disk.safe/\cnRs nilR=t_j (hearB f m).1.way/\cnRs (frozenRs (raw []))=t_g (hearB f m).2.1/\cnRs (frozenRs (raw []))=t_k (hearB f m).2.2;∃ (b:Front),(q_e f.disk.notes b.disk.notes/\f.disk.safe=b.disk.safe/\q_h f.way b.way)/\((!froB b)=false->∃ (b:Msg),(m.kind=b.kind/\m.to=b.to/\m.frm=b.frm/\m.tx=b.tx/\m.op.kind=b.op.kind/\m.op.who=b.op.who/\m.op.inn=b.op.inn/\m.op.code=b.op.code/\m.op.sec=b.op.sec/\m.op.fam=b.op.fam/\m.op.gen=b.op.gen)/\((!msgB b)=false->((m.to != i_0)=true->k_1)/\((m.to != i_0)=false->∃ (b:Front),(q_e f.disk.notes b.disk.notes/\f.disk.safe=b.disk.safe/\q_h f.way b.way)/\smallF b/\(∃ (b_1:Front×Msg),((cnRs (frozenRs (typ dNote eNoteO b.disk.notes))=t_e b_1.1.disk.notes/\b.disk.safe=b_1.1.disk.safe/\cnRs (frozenRs (typ dFTx eFTxO b.way))=t_h b_1.1.way)/\m.kind=b_1.2.kind/\m.to=b_1.2.to/\m.frm=b_1.2.frm/\m.tx=b_1.2.tx/\m.op.kind=b_1.2.op.kind/\m.op.who=b_1.2.op.who/\m.op.inn=b_1.2.op.inn/\m.op.code=b_1.2.op.code/\m.op.sec=b_1.2.op.sec/\m.op.fam=b_1.2.op.fam/\m.op.gen=b_1.2.op.gen)/\(b_1.1.way.length<=n_1000/\(∀ (t:FTx),t∈b_1.1.way->smallT t))/\(∃ (b:Front),(q_e (hearF b_1.1 b_1.2).1.disk.notes b.disk.notes/\(hearF b_1.1 b_1.2).1.disk.safe=b.disk.safe/\cnRs (frozenRs (typ dFTx eFTxS (hearF b_1.1 b_1.2).1.way))=t_h b.way)/\smallF b/\q_f b.disk.notes (hearB f m).1.disk.notes/\b.disk.safe=(hearB f m).1.disk.safe/\q_j b.way (hearB f m).1.way/\cnRs (frozenRs (typ dMsg eMsg (hearF b_1.1 b_1.2).2.1))=t_g (hearB f m).2.1/\cnRs (frozenRs (typ dFOut eFOut (hearF b_1.1 b_1.2).2.2))=t_k (hearB f m).2.2))))/\((!msgB b)=true->k_1))/\((!froB b)=true->k_1))=_ by kernel_rfl) ?_
 delta i_0 n_1000 t_e q_e t_f q_f t_g t_h q_h t_j q_j t_k
 simp only [zza,zzb,true_and,and_true,and_self,ne_eq,cI_app,cWrtO_app,cWrtS_app,cWrtO_1,cItemO_1,opr_ex,zcast,frz_nil,nil_map,Option.getD_none,Option.getD_some]
 have no:(froB f&&msgB m&&decide (m.to=0))=false->[]=(hearB f m).1.disk.notes/\0=(hearB f m).1.disk.safe/\[]=(hearB f m).1.way/\cnRs (frozenRs (raw []))=List.map nMsg (hearB f m).2.1/\cnRs (frozenRs (raw []))=List.map nFOut (hearB f m).2.2:=fun h=>by
  simp only [hearB,h];exact ⟨rfl,rfl,rfl,rfl,rfl⟩
 refine ⟨fun h1=>⟨fun h2=>⟨fun h3=>no (by simp [h3]),fun h3=>?_⟩,fun h2=>no (by simp at h2;simp [h2])⟩,fun h1=>no (by simp at h1;simp [h1])⟩
 simp only [Bool.not_eq_false'] at h1 h2
 have h3:m.to=0:=by simpa using h3
 have e:hearB f m=hearF f m:=by simp only [hearB,h1,h2,h3,decide_true,Bool.and_self,if_true]
 have hf:=froB_iff.1 h1
 rw [e]
 exact ⟨hf.small,hf.small.2.1,hf.small.2.2,(hear_ok hf (to_front h2 h3).2.1).small,rfl,rfl,rfl,rfl,rfl⟩
def spec_FroHear_c:Con Tryz.prog:=con0 [.lend,.lend] fun b:Front×Msg=>spec_FroHear_ok (b.1) (b.2)
theorem msgD_le' {l:List Int} {p:Nat} (n:Int) (h:rdB l p 40):(msgD l p n).2<=p+30:=by
 have h1:=msg0_le (l:=l) (p:=p) (rdB_le h (by omega))
 have h2:=odd_le l (msg0 l p).2 n
 have h3:=op_le (l:=l) (p:=(oddB l (msg0 l p).2 n).2+1) 1 (rdB_le h (by omega))
 simp only [msgD]
 split
 ·simp only [msgBent]
  repeat' split
  all_goals simp only<;>omega
 ·simp only;omega
def froM1 (l:List Int):Msg×Nat :=
 let a:=msgD l (frontD l 0 12).2 9
 if a.1.kind<=3 then (if 0<pickB l a.2 5 then (⟨4+pickB l (a.2+1) 4,0,1+pickB l (a.2+2) 3,a.1.tx,dOpr⟩,a.2+3) else (a.1,a.2+1)) else a
def froM2 (f:Front) (l:List Int) (a:Msg×Nat):Msg :=
 if 0<f.way.length then (if 0<pickB l a.2 3 then (if 4<=a.1.kind then ⟨a.1.kind,a.1.to,a.1.frm,(f.way.getD (pickB l (a.2+1) f.way.length).toNat dFTx).tx,a.1.op⟩ else a.1) else a.1) else a.1
def froHr (l:List Int):Msg:=froM2 (frontD l 0 12).1 l (froM1 l)
theorem spec_DrawFroHear_ok (l:List Int) (hpre:okU l):FunOK Tryz.prog 31 1 [] [(0,k1 (sU l))] (·=[(1,⟨.tup [(true,3),(true,11)],.c (oNotes (frontD (l.take 2000) 0 12).1.disk.notes)::.c (.n .i64 (frontD (l.take 2000) 0 12).1.disk.safe)::.c (oFTxs (frontD (l.take 2000) 0 12).1.way)::cKMsg (froHr (l.take 2000)),[]⟩)]):=by
 refine fun_to (E:=⟨tab,ctOf [spec_l20Open_c,spec_l20Front_c,spec_rd_pick_c,spec_l20Msg_c],57,[],[(0,[0,2,3,5,55]),(1,[2,3,4,5,8,55]),(2,[2,3,4,5,8,55]),(3,[2,3,4,5,6,8,55]),(4,[2,3,4,5,6,8,20,55]),(5,[2,3,4,5,6,8,55]),(6,[2,3,4,5,6,8,43,55]),(7,[2,3,5,6,55]),(8,[2,3,5,55])],[],[],[],[]⟩) tab_ok mixed Tryz.func31 rfl Tryz.ntmps31 (rvs:=[.cell 2 38,.cell 3 46]) Tryz.results31 rfl fun hl=>?_
 refine cast (show (let k_2:Prop:=i_0=(froHr (List.take n_2000 l)).to;let k_1:Prop:=i_0=(froHr (List.take n_2000 l)).op.kind/\i_0=(froHr (List.take n_2000 l)).op.who/\i_0=(froHr (List.take n_2000 l)).op.inn/\i_0=(froHr (List.take n_2000 l)).op.code/\i_0=(froHr (List.take n_2000 l)).op.sec/\i_0=(froHr (List.take n_2000 l)).op.fam/\i_0=(froHr (List.take n_2000 l)).op.gen;∃ (b:List Int),q_U l b/\(∃ (b_1:y_6),let k_7:Prop:=decide ((zi (frontD b_1.1 b_1.2.1 b_1.2.2).1.way.length)>i_0)=true;let k_6:Prop:=decide ((zi (frontD b_1.1 b_1.2.1 b_1.2.2).1.way.length)>i_0)=false;let k_5:Prop:=q_j (frontD b_1.1 b_1.2.1 b_1.2.2).1.way (frontD (List.take n_2000 l) n_0 i_12).1.way;let k_4:Prop:=(frontD b_1.1 b_1.2.1 b_1.2.2).1.disk.safe=(frontD (List.take n_2000 l) n_0 i_12).1.disk.safe;let k_3:Prop:=q_f (frontD b_1.1 b_1.2.1 b_1.2.2).1.disk.notes (frontD (List.take n_2000 l) n_0 i_12).1.disk.notes;((q_U (List.take n_2000 b) b_1.1/\zi n_0=zi b_1.2.1)/\i_12=b_1.2.2)/\(rdB b_1.1 b_1.2.1 n_4000/\b_1.2.2<i_1000000)/\(∃ (b:y_6),let k_17:Prop:=decide ((msgD b.1 b.2.1 b.2.2).1.kind≥i_4)=true;let k_16:Prop:=(msgD b.1 b.2.1 b.2.2).1.to=(froHr (List.take n_2000 l)).to;let k_15:Prop:=(msgD b.1 b.2.1 b.2.2).1.tx=(froHr (List.take n_2000 l)).tx;let k_14:Prop:=(msgD b.1 b.2.1 b.2.2).1.frm=(froHr (List.take n_2000 l)).frm;let k_13:Prop:=(msgD b.1 b.2.1 b.2.2).1.kind=(froHr (List.take n_2000 l)).kind;let k_12:Prop:=k_15/\k_1;let k_11:Prop:=(msgD b.1 b.2.1 b.2.2).1.op.kind=(froHr (List.take n_2000 l)).op.kind/\(msgD b.1 b.2.1 b.2.2).1.op.who=(froHr (List.take n_2000 l)).op.who/\(msgD b.1 b.2.1 b.2.2).1.op.inn=(froHr (List.take n_2000 l)).op.inn/\(msgD b.1 b.2.1 b.2.2).1.op.code=(froHr (List.take n_2000 l)).op.code/\(msgD b.1 b.2.1 b.2.2).1.op.sec=(froHr (List.take n_2000 l)).op.sec/\(msgD b.1 b.2.1 b.2.2).1.op.fam=(froHr (List.take n_2000 l)).op.fam/\(msgD b.1 b.2.1 b.2.2).1.op.gen=(froHr (List.take n_2000 l)).op.gen;let k_10:Prop:=k_3/\k_4/\k_5/\k_13/\k_16/\k_14/\k_15/\k_11;let k_9:Prop:=k_6->k_10;let k_8:Prop:=decide ((msgD b.1 b.2.1 b.2.2).1.kind≥i_4)=false->k_10;((q_U b_1.1 b.1/\(zi (frontD b_1.1 b_1.2.1 b_1.2.2).2)=zi b.2.1)/\i_9=b.2.2)/\(rdB b.1 b.2.1 n_40/\b.2.2<i_1000000)/\(decide ((msgD b.1 b.2.1 b.2.2).1.kind<=i_3)=true->∃ (b_2:y_6),((q_U b.1 b_2.1/\(zi (msgD b.1 b.2.1 b.2.2).2)=zi b_2.2.1)/\i_5=b_2.2.2)/\rdB b_2.1 b_2.2.1 n_1/\(decide (pickB b_2.1 b_2.2.1 b_2.2.2>i_0)=true->∃ (b_3:y_6),let k_18:Prop:=wr_ (i_4+pickB b_3.1 b_3.2.1 b_3.2.2)=(froHr (List.take n_2000 l)).kind;((q_U b_2.1 b_3.1/\(zi (b_2.2.1+n_1))=zi b_3.2.1)/\i_4=b_3.2.2)/\rdB b_3.1 b_3.2.1 n_1/\(∃ (b_4:y_6),let k_20:Prop:=wr_ (i_1+pickB b_4.1 b_4.2.1 b_4.2.2)=(froHr (List.take n_2000 l)).frm;let k_19:Prop:=k_3/\k_4/\k_5/\k_18/\k_2/\k_20/\k_12;((q_U b_3.1 b_4.1/\(zi (b_3.2.1+n_1))=zi b_4.2.1)/\i_3=b_4.2.2)/\rdB b_4.1 b_4.2.1 n_1/\(k_7->∃ (b_5:y_6),((q_U b_4.1 b_5.1/\(zi (b_4.2.1+n_1))=zi b_5.2.1)/\i_3=b_5.2.2)/\rdB b_5.1 b_5.2.1 n_1/\(decide (pickB b_5.1 b_5.2.1 b_5.2.2>i_0)=true->(decide (wr_ (i_4+pickB b_3.1 b_3.2.1 b_3.2.2)≥i_4)=true->∃ (b:y_6),((q_U b_5.1 b.1/\(zi (b_5.2.1+n_1))=zi b.2.1)/\(zi (frontD b_1.1 b_1.2.1 b_1.2.2).1.way.length)=b.2.2)/\rdB b.1 b.2.1 n_1/\(i_0<=pickB b.1 b.2.1 b.2.2/\pickB b.1 b.2.1 b.2.2<(zi (frontD b_1.1 b_1.2.1 b_1.2.2).1.way.length))/\(pickB b.1 b.2.1 b.2.2).toNat<(frontD b_1.1 b_1.2.1 b_1.2.2).1.way.length/\k_3/\k_4/\k_5/\k_18/\k_2/\k_20/\((frontD b_1.1 b_1.2.1 b_1.2.2).1.way.getD (pickB b.1 b.2.1 b.2.2).toNat dFTx).tx=(froHr (List.take n_2000 l)).tx/\k_1)/\(decide (wr_ (i_4+pickB b_3.1 b_3.2.1 b_3.2.2)≥i_4)=false->k_19))/\(decide (pickB b_5.1 b_5.2.1 b_5.2.2>i_0)=false->k_19))/\(k_6->k_19)))/\(decide (pickB b_2.1 b_2.2.1 b_2.2.2>i_0)=false->(k_7->∃ (b_3:y_6),((q_U b_2.1 b_3.1/\(zi (b_2.2.1+n_1))=zi b_3.2.1)/\i_3=b_3.2.2)/\rdB b_3.1 b_3.2.1 n_1/\(decide (pickB b_3.1 b_3.2.1 b_3.2.2>i_0)=true->(k_17->∃ (b_4:y_6),((q_U b_3.1 b_4.1/\(zi (b_3.2.1+n_1))=zi b_4.2.1)/\(zi (frontD b_1.1 b_1.2.1 b_1.2.2).1.way.length)=b_4.2.2)/\rdB b_4.1 b_4.2.1 n_1/\(i_0<=pickB b_4.1 b_4.2.1 b_4.2.2/\pickB b_4.1 b_4.2.1 b_4.2.2<(zi (frontD b_1.1 b_1.2.1 b_1.2.2).1.way.length))/\(pickB b_4.1 b_4.2.1 b_4.2.2).toNat<(frontD b_1.1 b_1.2.1 b_1.2.2).1.way.length/\k_3/\k_4/\k_5/\k_13/\k_16/\k_14/\((frontD b_1.1 b_1.2.1 b_1.2.2).1.way.getD (pickB b_4.1 b_4.2.1 b_4.2.2).toNat dFTx).tx=(froHr (List.take n_2000 l)).tx/\k_11)/\k_8)/\(decide (pickB b_3.1 b_3.2.1 b_3.2.2>i_0)=false->k_10))/\k_9))/\(decide ((msgD b.1 b.2.1 b.2.2).1.kind<=i_3)=false->(k_7->∃ (b_2:y_6),((q_U b.1 b_2.1/\(zi (msgD b.1 b.2.1 b.2.2).2)=zi b_2.2.1)/\i_3=b_2.2.2)/\rdB b_2.1 b_2.2.1 n_1/\(decide (pickB b_2.1 b_2.2.1 b_2.2.2>i_0)=true->(k_17->∃ (b_3:y_6),((q_U b_2.1 b_3.1/\(zi (b_2.2.1+n_1))=zi b_3.2.1)/\(zi (frontD b_1.1 b_1.2.1 b_1.2.2).1.way.length)=b_3.2.2)/\rdB b_3.1 b_3.2.1 n_1/\(i_0<=pickB b_3.1 b_3.2.1 b_3.2.2/\pickB b_3.1 b_3.2.1 b_3.2.2<(zi (frontD b_1.1 b_1.2.1 b_1.2.2).1.way.length))/\(pickB b_3.1 b_3.2.1 b_3.2.2).toNat<(frontD b_1.1 b_1.2.1 b_1.2.2).1.way.length/\k_3/\k_4/\k_5/\k_13/\k_16/\k_14/\((frontD b_1.1 b_1.2.1 b_1.2.2).1.way.getD (pickB b_3.1 b_3.2.1 b_3.2.2).toNat dFTx).tx=(froHr (List.take n_2000 l)).tx/\k_11)/\k_8)/\(decide (pickB b_2.1 b_2.2.1 b_2.2.2>i_0)=false->k_10))/\k_9))))=_ by kernel_rfl) ?_
 delta i_0 i_9 i_1 i_5 i_3 i_4 wr_ zi n_0 n_1 n_40 i_1000000 t_U q_U n_2000 y_6 i_12 t_f q_f t_j q_j n_4000
 simp only [zza,zzb,true_and,and_true,and_self,ne_eq,cI_app,cWrtO_app,cWrtS_app,cWrtO_1,cItemO_1,opr_ex,zcast,frz_nil,nil_map,Option.getD_none,Option.getD_some]
 have hu:okU (l.take 2000):=fun x hx=>hpre x (List.mem_of_mem_take hx)
 generalize l.take 2000=L at *
 have hr:∀ q:Nat,q<=100000->∀ k:Nat,k<=4000->rdB L q k:=fun q hq k hk=>⟨hu,by omega⟩
 have hd:=frontD_le 12 (hr 0 (by omega) 4000 (by omega))
 have hm:=msgD_le' (l:=L) (p:=(frontD L 0 12).2) 9 (hr _ (by omega) 40 (by omega))
 have e1:froM1 L=if (msgD L (frontD L 0 12).2 9).1.kind<=3 then (if 0<pickB L (msgD L (frontD L 0 12).2 9).2 5 then (⟨4+pickB L ((msgD L (frontD L 0 12).2 9).2+1) 4,0,1+pickB L ((msgD L (frontD L 0 12).2 9).2+2) 3,(msgD L (frontD L 0 12).2 9).1.tx,dOpr⟩,(msgD L (frontD L 0 12).2 9).2+3) else ((msgD L (frontD L 0 12).2 9).1,(msgD L (frontD L 0 12).2 9).2+1)) else msgD L (frontD L 0 12).2 9:=rfl
 simp only [froHr]
 rw [e1]
 generalize frontD L 0 12=A at *
 obtain ⟨f,p⟩:=A
 simp only at hd hm ⊢
 generalize msgD L p 9=B at *
 obtain ⟨m,q⟩:=B
 simp only at hm ⊢
 have b1:=pick_lt (l:=L) (p:=q+1) (n:=4) (hr _ (by omega) 1 (by omega)) (by omega)
 have b2:=pick_lt (l:=L) (p:=q+2) (n:=3) (hr _ (by omega) 1 (by omega)) (by omega)
 have b2':0<=pickB L (q+1+1) 3/\pickB L (q+1+1) 3<3:=b2
 have e2:IntKind.i64.wrap (4+pickB L (q+1) 4)=4+pickB L (q+1) 4:=IntWalk.i64_in _ (by omega)
 have e3:IntKind.i64.wrap (1+pickB L (q+1+1) 3)=1+pickB L (q+2) 3:=IntWalk.i64_in _ (by omega)
 have pk:∀ (r:Nat),r<=90000->0<f.way.length->0<=pickB L r (f.way.length:Int)/\pickB L r (f.way.length:Int)<(f.way.length:Int):=fun r h1 h2=>pick_lt (l:=L) (p:=r) (n:=(f.way.length:Int)) (hr _ (by omega) 1 (by omega)) (by omega)
 have fin:∀ (a:Msg) (r:Nat),r<=80000->(0<(f.way.length:Int)->rdB L r 1/\(0<pickB L r 3->(4<=a.kind->rdB L (r+1) 1/\0<=pickB L (r+1) f.way.length/\pickB L (r+1) f.way.length<f.way.length/\(pickB L (r+1) f.way.length).toNat<f.way.length/\froM2 f L (a,r)=⟨a.kind,a.to,a.frm,(f.way.getD (pickB L (r+1) f.way.length).toNat dFTx).tx,a.op⟩)/\(¬ 4<=a.kind->froM2 f L (a,r)=a))/\(¬ 0<pickB L r 3->froM2 f L (a,r)=a))/\(¬ 0<(f.way.length:Int)->froM2 f L (a,r)=a):=fun a r hq=>by
  refine ⟨fun h1=>⟨hr _ (by omega) _ (by omega),fun h2=>⟨fun h3=>?_,fun h3=>?_⟩,fun h2=>?_⟩,fun h1=>?_⟩
  ·have:=pk (r+1) (by omega) (by omega)
   exact ⟨hr _ (by omega) _ (by omega),this.1,this.2,by omega,by simp only [froM2];rw [if_pos (by omega),if_pos h2,if_pos h3]⟩
  ·simp only [froM2];rw [if_pos (by omega),if_pos h2,if_neg h3]
  ·simp only [froM2];rw [if_pos (by omega),if_neg h2]
  ·simp only [froM2];rw [if_neg (by omega)]
 simp only [e2,e3]
 refine ⟨hr _ (by omega) _ (by omega),by omega,hr _ (by omega) _ (by omega),by omega,fun h1=>⟨hr _ (by omega) _ (by omega),fun h2=>⟨hr _ (by omega) _ (by omega),hr _ (by omega) _ (by omega),?_⟩,fun h2=>?_⟩,fun h1=>?_⟩
 ·obtain ⟨g1,g2⟩:=fin ⟨4+pickB L (q+1) 4,0,1+pickB L (q+2) 3,m.tx,dOpr⟩ (q+3) (by omega)
  simp only [if_pos h1,if_pos h2]
  refine ⟨fun h3=>⟨(g1 h3).1,fun h4=>⟨fun h5=>?_,fun h5=>?_⟩,fun h4=>?_⟩,fun h3=>?_⟩
  ·obtain ⟨k1,k2,k3,k4,k5⟩:=((g1 h3).2.1 h4).1 h5
   rw [k5];refine ⟨k1,k2,k3,k4,?_⟩;and_intros<;>rfl
  ·rw [((g1 h3).2.1 h4).2 h5];and_intros<;>rfl
  ·rw [(g1 h3).2.2 h4];and_intros<;>rfl
  ·rw [g2 h3];and_intros<;>rfl
 ·obtain ⟨g1,g2⟩:=fin m (q+1) (by omega)
  simp only [if_pos h1,if_neg h2]
  refine ⟨fun h3=>⟨(g1 h3).1,fun h4=>⟨fun h5=>?_,fun h5=>?_⟩,fun h4=>?_⟩,fun h3=>?_⟩
  ·obtain ⟨k1,k2,k3,k4,k5⟩:=((g1 h3).2.1 h4).1 h5
   rw [k5];refine ⟨k1,k2,k3,k4,?_⟩;and_intros<;>rfl
  ·rw [((g1 h3).2.1 h4).2 h5];and_intros<;>rfl
  ·rw [(g1 h3).2.2 h4];and_intros<;>rfl
  ·rw [g2 h3];and_intros<;>rfl
 ·obtain ⟨g1,g2⟩:=fin m q (by omega)
  simp only [if_neg h1]
  refine ⟨fun h3=>⟨(g1 h3).1,fun h4=>⟨fun h5=>?_,fun h5=>?_⟩,fun h4=>?_⟩,fun h3=>?_⟩
  ·obtain ⟨k1,k2,k3,k4,k5⟩:=((g1 h3).2.1 h4).1 h5
   rw [k5];refine ⟨k1,k2,k3,k4,?_⟩;and_intros<;>rfl
  ·rw [((g1 h3).2.1 h4).2 h5];and_intros<;>rfl
  ·rw [(g1 h3).2.2 h4];and_intros<;>rfl
  ·rw [g2 h3];and_intros<;>rfl
def spec_DrawFroHear_c:Con Tryz.prog:=conP [.lend] fun (b:List Int) h=>spec_DrawFroHear_ok b h
end Go.Proofs.AI
namespace Go.Proofs.AI
open Go.RowKit Go.Proofs
set_option linter.unusedVariables false
set_option linter.unusedSimpArgs false
set_option maxRecDepth 100000
theorem laws_FnFroTwice_ok (l:List Int) (hpre:okU l):FunOK Tryz.prog 6 1 [] [(0,k1 (sU l))] (·=[(1,kB true)]):=by
 refine fun_to (E:=⟨tabM,ctOf [spec_FroHear_c,impl_FroHear_c,laws_jaOk_c,laws_jaFront_c,spec_DrawFroHear_c,spec_FroOk_c,spec_MsgOk_c],69,[],[(0,[0]),(1,[0,16]),(2,[2]),(3,[3,4]),(4,[3,4,5]),(5,[3,4,5,8]),(6,[3,4,5,39]),(7,[2]),(8,[4,5,52]),(9,[2]),(10,[5,11,13,54,57,60]),(11,[2])],[],[(3,[(2,[19])]),(4,[(3,[25])]),(5,[(3,[32])]),(10,[(3,[57])]),(11,[(1000000,[])])],[],[]⟩) tabM_ok mixed Tryz.func6 rfl Tryz.ntmps6 (rvs:=[.tmp 2]) Tryz.results6 rfl fun hl=>?_
 refine cast (show (let k_1:Prop:=∃ (b:Unit),True/\true=true;(decide ((zi l.length)>i_1048576)=true->true=true)/\(decide ((zi l.length)>i_1048576)=false->∃ (b:List Int),q_U l b/\okU b/\(∃ (b_1:Front×Msg),((cnRs (frozenRs (typ dNote eNoteO (frontD (List.take n_2000 b) n_0 i_12).1.disk.notes))=t_e b_1.1.disk.notes/\(frontD (List.take n_2000 b) n_0 i_12).1.disk.safe=b_1.1.disk.safe/\cnRs (frozenRs (typ dFTx eFTxO (frontD (List.take n_2000 b) n_0 i_12).1.way))=t_h b_1.1.way)/\(froHr (List.take n_2000 b)).kind=b_1.2.kind/\(froHr (List.take n_2000 b)).to=b_1.2.to/\(froHr (List.take n_2000 b)).frm=b_1.2.frm/\(froHr (List.take n_2000 b)).tx=b_1.2.tx/\(froHr (List.take n_2000 b)).op.kind=b_1.2.op.kind/\(froHr (List.take n_2000 b)).op.who=b_1.2.op.who/\(froHr (List.take n_2000 b)).op.inn=b_1.2.op.inn/\(froHr (List.take n_2000 b)).op.code=b_1.2.op.code/\(froHr (List.take n_2000 b)).op.sec=b_1.2.op.sec/\(froHr (List.take n_2000 b)).op.fam=b_1.2.op.fam/\(froHr (List.take n_2000 b)).op.gen=b_1.2.op.gen)/\(∃ (b_2:Front×Msg),((cnRs (frozenRs (typ dNote eNoteO (frontD (List.take n_2000 b) n_0 i_12).1.disk.notes))=t_e b_2.1.disk.notes/\(frontD (List.take n_2000 b) n_0 i_12).1.disk.safe=b_2.1.disk.safe/\cnRs (frozenRs (typ dFTx eFTxO (frontD (List.take n_2000 b) n_0 i_12).1.way))=t_h b_2.1.way)/\(froHr (List.take n_2000 b)).kind=b_2.2.kind/\(froHr (List.take n_2000 b)).to=b_2.2.to/\(froHr (List.take n_2000 b)).frm=b_2.2.frm/\(froHr (List.take n_2000 b)).tx=b_2.2.tx/\(froHr (List.take n_2000 b)).op.kind=b_2.2.op.kind/\(froHr (List.take n_2000 b)).op.who=b_2.2.op.who/\(froHr (List.take n_2000 b)).op.inn=b_2.2.op.inn/\(froHr (List.take n_2000 b)).op.code=b_2.2.op.code/\(froHr (List.take n_2000 b)).op.sec=b_2.2.op.sec/\(froHr (List.take n_2000 b)).op.fam=b_2.2.op.fam/\(froHr (List.take n_2000 b)).op.gen=b_2.2.op.gen)/\(∃ (b_3:Front×Front),((cnRs (frozenRs (typ dNote eNoteO (hearB b_1.1 b_1.2).1.disk.notes))=t_e b_3.1.disk.notes/\(hearB b_1.1 b_1.2).1.disk.safe=b_3.1.disk.safe/\cnRs (frozenRs (typ dFTx eFTxO (hearB b_1.1 b_1.2).1.way))=t_h b_3.1.way)/\cnRs (frozenRs (typ dNote eNoteO (hearB b_2.1 b_2.2).1.disk.notes))=t_e b_3.2.disk.notes/\(hearB b_2.1 b_2.2).1.disk.safe=b_3.2.disk.safe/\cnRs (frozenRs (typ dFTx eFTxO (hearB b_2.1 b_2.2).1.way))=t_h b_3.2.way)/\((!decide (b_3.1=b_3.2))=true->false=true)/\((!decide (b_3.1=b_3.2))=false->∃ (b_4:Front),(cnRs (frozenRs (typ dNote eNoteO (frontD (List.take n_2000 b) n_0 i_12).1.disk.notes))=t_e b_4.disk.notes/\(frontD (List.take n_2000 b) n_0 i_12).1.disk.safe=b_4.disk.safe/\cnRs (frozenRs (typ dFTx eFTxO (frontD (List.take n_2000 b) n_0 i_12).1.way))=t_h b_4.way)/\((!froB b_4)=false->∃ (b_5:Msg),((froHr (List.take n_2000 b)).kind=b_5.kind/\(froHr (List.take n_2000 b)).to=b_5.to/\(froHr (List.take n_2000 b)).frm=b_5.frm/\(froHr (List.take n_2000 b)).tx=b_5.tx/\(froHr (List.take n_2000 b)).op.kind=b_5.op.kind/\(froHr (List.take n_2000 b)).op.who=b_5.op.who/\(froHr (List.take n_2000 b)).op.inn=b_5.op.inn/\(froHr (List.take n_2000 b)).op.code=b_5.op.code/\(froHr (List.take n_2000 b)).op.sec=b_5.op.sec/\(froHr (List.take n_2000 b)).op.fam=b_5.op.fam/\(froHr (List.take n_2000 b)).op.gen=b_5.op.gen)/\((!msgB b_5)=false->(((froHr (List.take n_2000 b)).to != i_0)=true->k_1)/\(((froHr (List.take n_2000 b)).to != i_0)=false->∃ (b_6:Front×Msg),((cnRs (frozenRs (typ dNote eNoteO (hearB b_1.1 b_1.2).1.disk.notes))=t_e b_6.1.disk.notes/\(hearB b_1.1 b_1.2).1.disk.safe=b_6.1.disk.safe/\cnRs (frozenRs (typ dFTx eFTxO (hearB b_1.1 b_1.2).1.way))=t_h b_6.1.way)/\(froHr (List.take n_2000 b)).kind=b_6.2.kind/\(froHr (List.take n_2000 b)).to=b_6.2.to/\(froHr (List.take n_2000 b)).frm=b_6.2.frm/\(froHr (List.take n_2000 b)).tx=b_6.2.tx/\(froHr (List.take n_2000 b)).op.kind=b_6.2.op.kind/\(froHr (List.take n_2000 b)).op.who=b_6.2.op.who/\(froHr (List.take n_2000 b)).op.inn=b_6.2.op.inn/\(froHr (List.take n_2000 b)).op.code=b_6.2.op.code/\(froHr (List.take n_2000 b)).op.sec=b_6.2.op.sec/\(froHr (List.take n_2000 b)).op.fam=b_6.2.op.fam/\(froHr (List.take n_2000 b)).op.gen=b_6.2.op.gen)/\(((zi (hearB b_6.1 b_6.2).2.2.length)==i_0)=true->∃ (b:Front×Front),((cnRs (frozenRs (typ dNote eNoteO (hearB b_6.1 b_6.2).1.disk.notes))=t_e b.1.disk.notes/\(hearB b_6.1 b_6.2).1.disk.safe=b.1.disk.safe/\cnRs (frozenRs (typ dFTx eFTxO (hearB b_6.1 b_6.2).1.way))=t_h b.1.way)/\cnRs (frozenRs (typ dNote eNoteO (hearB b_1.1 b_1.2).1.disk.notes))=t_e b.2.disk.notes/\(hearB b_1.1 b_1.2).1.disk.safe=b.2.disk.safe/\cnRs (frozenRs (typ dFTx eFTxO (hearB b_1.1 b_1.2).1.way))=t_h b.2.way)/\decide (b.1=b.2)=true)/\(((zi (hearB b_6.1 b_6.2).2.2.length)==i_0)=false->false=true)))/\((!msgB b_5)=true->k_1))/\((!froB b_4)=true->k_1)))))))=_ by kernel_rfl) ?_
 delta i_0 zi n_0 t_U q_U n_2000 i_12 t_e t_h i_1048576
 simp (config:={ maxSteps:=2000000 }) only [zza,zzb,true_and,and_true,and_self,ne_eq,cI_app,cWrtO_app,cWrtS_app,cWrtO_1,cItemO_1,opr_ex,zcast,frz_nil,nil_map,Option.getD_none,Option.getD_some,if_true]
 generalize (frontD (List.take 2000 l) 0 12).1=f
 generalize froHr (List.take 2000 l)=m
 refine fun _=>⟨hpre,fun h=>by simp at h,fun _=>⟨fun h1=>⟨fun h2=>⟨fun _=>⟨(),trivial⟩,fun h3=>?_⟩,fun _=>⟨(),trivial⟩⟩,fun _=>⟨(),trivial⟩⟩⟩
 simp only [Bool.not_eq_false'] at h1 h2
 have h3:m.to=0:=by simpa using h3
 have hf:=froB_iff.1 h1
 have hm:=(to_front h2 h3).2.1
 have e:∀ {f:Front},okF f->hearB f m=hearF f m:=fun {f} hf=>by simp only [hearB,froB_iff.2 hf,h2,h3,decide_true,Bool.and_self,if_true]
 rw [e hf,e (hear_ok hf hm)]
 obtain ⟨t1,t2⟩:=hear_twice hf hm
 rw [t1,t2]
 exact ⟨fun _=>rfl,fun h=>absurd rfl h⟩
end Go.Proofs.AI
