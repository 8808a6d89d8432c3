/- What the function of this law does, in data. Conditions: none. -/
import Derived.KernelRfl
import Derived.IntWalk
import Derived.Test.YthahcnabgjgpfabGreatDoorProg
import Derived.Test.YthahcnabgjgpfabGreatDoorK05
namespace Go.Proofs.AI
open Go.RowKit Go.Proofs
set_option linter.unusedVariables false
set_option linter.unusedSimpArgs false
set_option maxRecDepth 100000
abbrev y_34:Type:=List Note×Int×List FTx×List Note×Int×List FTx×Nat
end Go.Proofs.AI
namespace Go.Proofs.AI
set_option linter.unusedVariables false
set_option linter.unusedSimpArgs false
theorem ofN_app (ns:List Note) (n:Note) (tx:Int):ofN (ns++[n]) tx=if n.tx=tx/\n.kind≠4 then n.kind else ofN ns tx:=by
 simp only [ofN,List.foldl_append,List.foldl_cons,List.foldl_nil,ofS]
theorem disk_add {d:Disk} {n:Note} {s:Int} (hd:diskB d=true) (hn:noteB n=true) (hl:d.notes.length≠120) (hs:s=d.safe∨s=(d.notes.length:Int)+1):diskB ⟨d.notes++[n],s⟩=true:=by
 obtain ⟨_,g2,g3,g4⟩:=diskB_small hd
 simp only [diskB,List.length_append,List.length_singleton,Bool.and_eq_true,decide_eq_true_eq,List.all_append,List.all_cons,List.all_nil,Bool.and_true,hn,and_true]
 refine ⟨⟨by omega,?_⟩,List.all_eq_true.2 g4⟩
 simp only [inR,Bool.and_eq_true,decide_eq_true_eq]
 omega
end Go.Proofs.AI
namespace Go.Proofs.AI
set_option linter.unusedVariables false
set_option linter.unusedSimpArgs false
theorem okT_app {ns:List Note} {n:Note} {t:FTx} (h:okT ns t) (hn:n.kind=4∨n.tx≠t.tx):okT (ns++[n]) t:=by
 refine ⟨h.tx,h.can,h.know,?_,h.op⟩
 rw [h.yes,ofN_app,if_neg]
 rintro ⟨h1,h2⟩
 exact hn.elim h2 (fun h3=>h3 h1)
theorem okF.tx_ne {f:Front} (h:okF f) {i j:Nat} (hi:i<f.way.length) (hj:j<f.way.length) (hij:i≠j):(f.way.getD i dFTx).tx≠(f.way.getD j dFTx).tx:=by
 rcases Nat.lt_or_gt_of_ne hij with h1 | h1
 ·have:=pw_at h.ws h1 hj;omega
 ·have:=pw_at h.ws h1 hi;omega
theorem at_none {w:List FTx} {tx:Int} (h:atF w tx<0):∀ t∈w,t.tx≠tx:=by
 intro t ht he
 simp only [atF,idxOf] at h
 split at h
 ·omega
 ·rename_i hn
  exact hn (List.any_eq_true.2 ⟨t,ht,by simp [he]⟩)
theorem pw_len {l:List FTx} {b:Int} (h:l.Pairwise fun a b=>a.tx<b.tx) (hb:∀ t∈l,0<=t.tx/\t.tx<b):l=[]∨(l.length:Int)<=b:=by
 have key:∀ i,i<l.length->(i:Int)<=(l.getD i dFTx).tx:=fun i=>by
  induction i with
  | zero=>intro hi;exact (hb _ (getD_mem' hi)).1
  | succ i ih=>intro hi;have:=ih (by omega);have:=pw_at h (show i<i+1 by omega) hi;omega
 rcases Nat.eq_zero_or_pos l.length with h0 | h0
 ·exact .inl (List.length_eq_zero_iff.1 h0)
 ·have:=key (l.length-1) (by omega)
  have:=(hb _ (getD_mem' (d:=dFTx) (show l.length-1<l.length by omega))).2
  exact .inr (by omega)
theorem gone_ok {f:Front} (h:okF f) (k:Nat):okF (goneF f k):=by
 refine ⟨h.fd,?_,h.kd,h.ws.sublist (List.eraseIdx_sublist ..),fun t ht=>h.ok t (List.mem_of_mem_eraseIdx ht)⟩
 have:=h.wl
 simp only [goneF,List.length_eraseIdx]
 split<;>omega
theorem noF_ok {f:Front} (h:okF f) (k:Nat):okF (noF f k).1:=gone_ok h k
theorem set_pw {l:List FTx} (h:l.Pairwise fun a b=>a.tx<b.tx) {k:Nat} {t:FTx} (ht:t.tx=(l.getD k dFTx).tx):(l.set k t).Pairwise fun a b=>a.tx<b.tx:=by
 refine List.pairwise_iff_getElem.2 fun i j hi hj hij=>?_
 simp only [List.length_set] at hi hj
 have:=pw_at h hij hj
 rw [getD_lt hi,getD_lt hj] at this
 simp only [List.getElem_set]
 split
 ·rename_i e
  subst e
  rw [if_neg (by omega),ht,getD_lt hi];exact this
 ·split
  ·rename_i e
   subst e
   rw [ht,getD_lt hj];exact this
  ·exact this
theorem set_ok {f:Front} (h:okF f) {k:Nat} {t:FTx} {d:Disk} (hk:k<f.way.length) (hd:diskB d=true) (hkd:∀ n∈d.notes,n.kind=2∨n.kind=4) (ht:t.tx=(f.way.getD k dFTx).tx) (hok:okT d.notes t)
  (ho:∀ u∈f.way,u.tx≠t.tx->okT d.notes u):okF ⟨d,f.way.set k t⟩:=by
 refine ⟨hd,by simpa using h.wl,hkd,set_pw h.ws ht,fun u hu=>?_⟩
 obtain ⟨i,hi,rfl⟩:=List.getElem_of_mem hu
 simp only [List.getElem_set]
 split
 ·exact hok
 ·rename_i hne
  have hi:i<f.way.length:=by simpa using hi
  refine ho _ (List.getElem_mem _) ?_
  have:=h.tx_ne hi hk (fun e=>hne e.symm)
  rw [getD_lt hi] at this
  rw [ht];exact this
theorem setT_ok {f:Front} (h:okF f) {k:Nat} {t:FTx} (hk:k<f.way.length) (ht:t.tx=(f.way.getD k dFTx).tx) (hok:okT f.disk.notes t):okF (setT f k t) :=
 set_ok h hk h.fd h.kd ht hok fun u hu _=>h.ok u hu
theorem begin_free {f:Front} (h:okF f) {tx:Int} (hn:¬ noBegin f tx):(∀ t∈f.way,t.tx<tx)/\ofN f.disk.notes tx=0/\f.disk.notes.length+2*f.way.length+2<=120:=by
 simp only [noBegin,not_or,not_and] at hn
 obtain ⟨n1,n2,n3,n4⟩:=hn
 have hne:=at_none (w:=f.way) (tx:=tx) (by omega)
 refine ⟨fun t ht=>?_,by omega,by omega⟩
 obtain ⟨k,hk,rfl⟩:=List.getElem_of_mem ht
 have hl:(f.way.getD (f.way.length-1) dFTx).tx<=tx:=by have:=n3 (by omega);omega
 have hne:=hne _ (getD_mem' (d:=dFTx) (show f.way.length-1<f.way.length by omega))
 rcases Nat.lt_or_ge k (f.way.length-1) with h1 | h1
 ·have:=pw_at h.ws h1 (by omega)
  rw [getD_lt hk] at this
  omega
 ·have:k=f.way.length-1:=by omega
  subst this
  rw [getD_lt hk] at hl hne
  omega
theorem begin_ok {f:Front} (h:okF f) {tx:Int} {o:Opr} (ht:0<=tx/\tx<=29) (ho:opOk o=true):okF (beginF f tx o).1:=by
 simp only [beginF]
 split
 ·exact h
 ·rename_i hn
  obtain ⟨n1,n2,n3⟩:=begin_free h hn
  refine ⟨h.fd,?_,h.kd,?_,fun t hm=>?_⟩
  ·have:=pw_len h.ws fun t hm=>⟨(h.ok t hm).tx.1,n1 t hm⟩
   simp only [List.length_append,List.length_singleton]
   rcases this with e | e
   ·rw [e];simp
   ·omega
  ·refine List.pairwise_append.2 ⟨h.ws,by simp,fun a ha b hb=>?_⟩
   simp at hb;subst hb
   exact n1 a ha
  ·rcases List.mem_append.1 hm with hm | hm
   ·exact h.ok t hm
   ·simp at hm;subst hm
    exact ⟨ht,ris3_nil,ris3_nil,by simp [n2],fun _=>⟨ho,rfl⟩⟩
theorem addD_some {d:Disk} {n:Note} {s:Bool} (hd:diskB d=true) (hn:noteB n=true) (hs:(addD d n s).2=true):addD d n s=(⟨d.notes++[n],if s=true then (d.notes.length:Int)+1 else d.safe⟩,true)/\d.notes.length≠120:=by
 simp only [addD,hd,hn,Bool.and_self,if_true] at hs ⊢
 split at hs
 ·cases hs
 ·rename_i h
  exact ⟨by rw [if_neg h],h⟩
theorem can_ok {f:Front} (h:okF f) {k:Nat} {p:Int} (hk:k<f.way.length) (hp:1<=p/\p<=3) (hy:(f.way.getD k dFTx).yes=false):okF (canF f k p).1:=by
 have ht:=h.at_ hk
 have h1:okF (setT f k (canT (f.way.getD k dFTx) p)):=setT_ok h hk rfl ⟨ht.tx,putP_ris ht.can hp,ht.know,ht.yes,ht.op⟩
 simp only [canF]
 split
 ·exact h1
 ·split
  ·rename_i hs
   have hn:=note_yes (k:=2) (.inl rfl) ht.tx
   obtain ⟨e,hl⟩:=addD_some h.fd hn hs
   rw [e]
   refine set_ok h hk (disk_add h.fd hn hl (.inr (by simp))) (fun n hn=>?_) rfl ⟨ht.tx,putP_ris ht.can hp,ht.know,?_,fun hc=>by cases hc⟩ fun u hu hne=>okT_app (h.ok u hu) (.inr (fun e=>hne e.symm))
   ·rcases List.mem_append.1 hn with hn | hn
    ·exact h.kd n hn
    ·simp at hn;subst hn;exact .inl rfl
   ·show true=_
    rw [ofN_app,if_pos ⟨rfl,(by decide:(2:Int)≠4)⟩]<;>rfl
  ·exact noF_ok h1 k
theorem know_ok {f:Front} (h:okF f) {k:Nat} {p:Int} (hk:k<f.way.length) (hp:1<=p/\p<=3) (hy:(f.way.getD k dFTx).yes=true):okF (knowF f k p):=by
 have ht:=h.at_ hk
 have h1:okF (setT f k (knowT (f.way.getD k dFTx) p)):=setT_ok h hk rfl ⟨ht.tx,ht.can,putP_ris ht.know hp,ht.yes,fun hc=>by simp only [knowT] at hc;rw [hy] at hc;cases hc⟩
 simp only [knowF]
 split
 ·exact h1
 ·split
  ·rename_i hs
   have hn:=note_yes (k:=4) (.inr (.inr rfl)) ht.tx
   obtain ⟨e,hl⟩:=addD_some h.fd hn hs
   rw [e]
   refine ⟨disk_add h.fd hn hl (.inl (by simp)),?_,fun n hn=>?_,h.ws.sublist (List.eraseIdx_sublist ..),fun u hu=>okT_app (h.ok u (List.mem_of_mem_eraseIdx hu)) (.inl rfl)⟩
   ·have:=h.wl
    simp only [List.length_eraseIdx]
    split<;>omega
   ·rcases List.mem_append.1 hn with hn | hn
    ·exact h.kd n hn
    ·simp at hn;subst hn;exact .inr rfl
  ·exact h1
inductive FroC (f:Front) (m:Msg):Prop
 | know (k:Nat):m.kind=6->k<f.way.length->(f.way.getD k dFTx).tx=m.tx->(f.way.getD k dFTx).yes=true->atF f.way m.tx=k->hearF f m=(knowF f k m.frm,[],[])->FroC f m
 | can (k:Nat):m.kind=4->k<f.way.length->(f.way.getD k dFTx).tx=m.tx->(f.way.getD k dFTx).yes=false->atF f.way m.tx=k->hearF f m=canF f k m.frm->FroC f m
 | cant (k:Nat):m.kind=5->k<f.way.length->(f.way.getD k dFTx).tx=m.tx->(f.way.getD k dFTx).yes=false->atF f.way m.tx=k->hearF f m=noF f k->FroC f m
 | what:(m.kind=4∨m.kind=7)->(m.kind=4->∀ k,k<f.way.length->(f.way.getD k dFTx).tx=m.tx->(f.way.getD k dFTx).yes=true)->hearF f m=(f,whatF f m,[])->FroC f m
 | vain:m.kind≠4->m.kind≠7->(m.kind=6->∀ k,k<f.way.length->(f.way.getD k dFTx).tx=m.tx->(f.way.getD k dFTx).yes=false)->(m.kind=5->∀ k,k<f.way.length->(f.way.getD k dFTx).tx=m.tx->(f.way.getD k dFTx).yes=true)->hearF f m=(f,[],[])->FroC f m
theorem fro_cases {f:Front} (h:okF f) (m:Msg):FroC f m:=by
 have hat:=atF_lt (w:=f.way) (tx:=m.tx)
 have huni:∀ k,k<f.way.length->(f.way.getD k dFTx).tx=m.tx->atF f.way m.tx=(k:Int):=fun k hk e=>e▸h.at_eq hk
 by_cases c1:m.kind=6/\0<=atF f.way m.tx/\yesAt f (atF f.way m.tx)=true
 ·obtain ⟨a1,a2,a3⟩:=c1
  exact .know _ a1 (hat a2).1 (hat a2).2 a3 (by omega) (by simp only [hearF,if_pos (⟨a1,a2,a3⟩:m.kind=6/\0<=atF f.way m.tx/\yesAt f (atF f.way m.tx)=true)])
 by_cases c2:m.kind=4/\0<=atF f.way m.tx/\yesAt f (atF f.way m.tx)=false
 ·obtain ⟨a1,a2,a3⟩:=c2
  exact .can _ a1 (hat a2).1 (hat a2).2 a3 (by omega) (by simp only [hearF,if_neg c1,if_pos (⟨a1,a2,a3⟩:m.kind=4/\0<=atF f.way m.tx/\yesAt f (atF f.way m.tx)=false)])
 by_cases c3:m.kind=5/\0<=atF f.way m.tx/\yesAt f (atF f.way m.tx)=false
 ·obtain ⟨a1,a2,a3⟩:=c3
  exact .cant _ a1 (hat a2).1 (hat a2).2 a3 (by omega) (by simp only [hearF,if_neg c1,if_neg c2,if_pos (⟨a1,a2,a3⟩:m.kind=5/\0<=atF f.way m.tx/\yesAt f (atF f.way m.tx)=false)])
 by_cases c4:m.kind=4∨m.kind=7
 ·refine .what c4 (fun a1 k hk e=>?_) (by simp only [hearF,if_neg c1,if_neg c2,if_neg c3,if_pos c4])
  have he:=huni k hk e
  rw [he] at c2
  rcases Bool.eq_false_or_eq_true (f.way.getD k dFTx).yes with hy | hy
  ·exact hy
  ·exact absurd ⟨a1,by omega,by simpa [yesAt] using hy⟩ c2
 ·refine .vain (fun e=>c4 (.inl e)) (fun e=>c4 (.inr e)) (fun a1 k hk e=>?_) (fun a1 k hk e=>?_) (by simp only [hearF,if_neg c1,if_neg c2,if_neg c3,if_neg c4])
  ·have he:=huni k hk e
   rw [he] at c1
   rcases Bool.eq_false_or_eq_true (f.way.getD k dFTx).yes with hy | hy
   ·exact absurd ⟨a1,by omega,by simpa [yesAt] using hy⟩ c1
   ·exact hy
  ·have he:=huni k hk e
   rw [he] at c3
   rcases Bool.eq_false_or_eq_true (f.way.getD k dFTx).yes with hy | hy
   ·exact hy
   ·exact absurd ⟨a1,by omega,by simpa [yesAt] using hy⟩ c3
theorem hear_ok {f:Front} (h:okF f) {m:Msg} (hm:1<=m.frm/\m.frm<=3):okF (hearF f m).1:=by
 cases fro_cases h m with
 | know k a1 a2 a3 a4 a5 e=>rw [e];exact know_ok h a2 hm a4
 | can k a1 a2 a3 a4 a5 e=>rw [e];exact can_ok h a2 hm a4
 | cant k a1 a2 a3 a4 a5 e=>rw [e];exact noF_ok h k
 | what a1 a2 e=>rw [e];exact h
 | vain a1 a2 a3 a4 e=>rw [e];exact h
end Go.Proofs.AI
namespace Go.Proofs.AI
open Go.RowKit Go.Proofs
set_option linter.unusedVariables false
set_option linter.unusedSimpArgs false
set_option maxRecDepth 100000
theorem impl_DiskOf_ok (d:Disk) (tx:Int):FunOK Tryz.prog 29 2 [] [(0,kDiskS d),(1,kI tx)] (·=[(2,kI (if diskB d=true then ofN d.notes tx else 0))]):=by
 refine fun_to (E:=⟨tab,ctOf [impl_DiskOk_c,impl_of_c],11,[],[(0,[1,2]),(1,[1,2,7]),(2,[4]),(3,[4])],[],[],[],[]⟩) tab_ok mixed Tryz.func29 rfl Tryz.ntmps29 (rvs:=[.tmp 4]) Tryz.results29 rfl fun hl=>?_
 refine cast (show (∃ (b:Disk),(q_e d.notes b.notes/\d.safe=b.safe)/\((!diskB b)=true->i_0=if diskB d=true then ofN d.notes tx else i_0)/\((!diskB b)=false->∃ (b:Disk×Int),((q_e d.notes b.1.notes/\d.safe=b.1.safe)/\tx=b.2)/\ofN b.1.notes b.2=if diskB d=true then ofN d.notes tx else i_0))=_ by kernel_rfl) ?_
 delta i_0 t_e q_e
 simp only [zza,zzb,true_and,and_true,and_self,ne_eq,cI_app,cWrtO_app,cWrtS_app,cWrtO_1,cItemO_1,opr_ex,zcast,frz_nil,nil_map,Option.getD_none,Option.getD_some]
 refine ⟨fun h=>?_,fun h=>?_⟩
 ·have h:diskB d=false:=by simpa only [Bool.not_eq_true'] using h
  rw [if_neg (by rw [h];decide)]
 ·have h:diskB d=true:=by simpa only [Bool.not_eq_false'] using h
  rw [if_pos h]
def impl_DiskOf_c:Con Tryz.prog:=con0 [.lend,.lend] fun b:Disk×Int=>impl_DiskOf_ok (b.1) (b.2)
end Go.Proofs.AI
namespace Go.Proofs.AI
open Go.RowKit Go.Proofs
set_option linter.unusedVariables false
set_option linter.unusedSimpArgs false
set_option maxRecDepth 100000
theorem impl_FroState_begin_ok (f:Front) (tx:Int) (o:Opr) (hpre:smallF f):FunOK Tryz.prog 62 3 [0] [(0,⟨.box,cKFrontO f,[]⟩),(1,kI tx),(2,kOp o)] (·=[(3,⟨.tup [(false,1),(false,1)],[.c (oMsgs (beginF f tx o).2.1),.c (.b (beginF f tx o).2.2)],[]⟩),(0,⟨.box,cKFrontO (beginF f tx o).1,[]⟩)]):=by
 refine fun_to (E:=⟨tab,ctOf [impl_OpPlaces_c,impl_of_c,impl_FroState_find_c,impl_told_c],78,[0],[(0,[0,1,5,77]),(1,[0,1,5,8,77]),(2,[0,1,5,60,77]),(3,[0,6,7,77]),(4,[0,1,5]),(5,[0,6,7,77])],[],[],[],[]⟩) tab_ok mixed Tryz.func62 rfl Tryz.ntmps62 (rvs:=[.tmp 6,.tmp 7]) Tryz.results62 rfl fun hl=>?_
 refine cast (show (let k_2:Prop:=(beginF f tx o).2.1.length=n_0/\false=(beginF f tx o).2.2;let k_1:Prop:=((∀ (k:Nat),True/\True/\True/\True/\True/\True/\True/\True/\True/\True/\True/\True)/\True)/\True;∃ (b:Front×Int),let k_6:Prop:=b.1.disk.safe=(beginF f tx o).1.disk.safe;let k_5:Prop:=q_f b.1.disk.notes (beginF f tx o).1.disk.notes;let k_4:Prop:=k_2/\k_5/\k_6/\q_j b.1.way (beginF f tx o).1.way;let k_3:Prop:=(decide (wr_ (wr_ ((zi b.1.disk.notes.length)+wr_ (i_2*(zi b.1.way.length)))+i_2)>i_120)=true->k_4)/\(decide (wr_ (wr_ ((zi b.1.disk.notes.length)+wr_ (i_2*(zi b.1.way.length)))+i_2)>i_120)=false->(b.1.way.length+n_1)*n_120<=n_140737488355328/\(∃ (b_2:Opr),(o.kind=b_2.kind/\o.who=b_2.who/\o.inn=b_2.inn/\o.code=b_2.code/\o.sec=b_2.sec/\o.fam=b_2.fam/\o.gen=b_2.gen)/\(∃ (b_3:y_20),(i_1=b_3.1/\tx=b_3.2.1/\(o.kind=b_3.2.2.1.kind/\o.who=b_3.2.2.1.who/\o.inn=b_3.2.2.1.inn/\o.code=b_3.2.2.1.code/\o.sec=b_3.2.2.1.sec/\o.fam=b_3.2.2.1.fam/\o.gen=b_3.2.2.1.gen)/\cnRs (frozenRs (typ i_0 eI (placesL b_2)))=t_I b_3.2.2.2)/\b_3.2.2.2.length<=n_1000/\k_1/\(q_g (toldF b_3.1 b_3.2.1 b_3.2.2.1 b_3.2.2.2) (beginF f tx o).2.1/\true=(beginF f tx o).2.2)/\k_5/\k_6/\cnRs (appR (typ dFTx eFTxO b.1.way) (raw [[cn_ tx,cn_ o.kind,cn_ o.who,cn_ o.inn,cn_ o.code,cn_ o.sec,cn_ o.fam,cn_ o.gen,CV.b false,CV.ow n_3 nilR,CV.ow n_3 nilR]]))=t_j (beginF f tx o).1.way)));((q_f f.disk.notes b.1.disk.notes/\f.disk.safe=b.1.disk.safe/\q_j f.way b.1.way)/\tx=b.2)/\(decide (atF b.1.way b.2≥i_0)=false->∃ (b_1:Disk×Int),((cnRs (frozenRs (typ dNote eNoteO b.1.disk.notes))=t_e b_1.1.notes/\b.1.disk.safe=b_1.1.safe)/\tx=b_1.2)/\((ofN b_1.1.notes b_1.2 != i_0)=false->(decide (wr_ ((zi f.way.length)-i_1)≥i_0)=true->(i_0<=wr_ ((zi f.way.length)-i_1)/\wr_ ((zi f.way.length)-i_1)<zi b.1.way.length)/\(wr_ ((zi f.way.length)-i_1)).toNat<b.1.way.length/\(decide ((b.1.way.getD (wr_ ((zi f.way.length)-i_1)).toNat dFTx).tx>tx)=false->k_3)/\(decide ((b.1.way.getD (wr_ ((zi f.way.length)-i_1)).toNat dFTx).tx>tx)=true->k_4))/\(decide (wr_ ((zi f.way.length)-i_1)≥i_0)=false->k_3))/\((ofN b_1.1.notes b_1.2 != i_0)=true->k_4))/\(decide (atF b.1.way b.2≥i_0)=true->k_4))=_ by kernel_rfl) ?_
 delta i_0 i_1 i_2 wr_ zi t_I n_0 n_140737488355328 n_1 n_3 n_1000 cn_ t_e i_120 t_f q_f t_g q_g y_20 t_j q_j n_120
 simp only [zza,zzb,true_and,and_true,and_self,ne_eq,cI_app,cWrtO_app,cWrtS_app,cWrtO_1,cItemO_1,opr_ex,zcast,frz_nil,nil_map,Option.getD_none,Option.getD_some]
 obtain ⟨⟨q1,_⟩,q2,_⟩:=hpre
 have w1:IntKind.i64.wrap ((f.way.length:Int)-1)=(f.way.length:Int)-1:=IntWalk.i64_in _ (by omega)
 have w2:IntKind.i64.wrap (IntKind.i64.wrap ((f.disk.notes.length:Int)+IntKind.i64.wrap (2*(f.way.length:Int)))+2)=(f.disk.notes.length:Int)+2*f.way.length+2:=by
  rw [IntWalk.i64_in (2*(f.way.length:Int)) (by omega),IntWalk.i64_in ((f.disk.notes.length:Int)+2*(f.way.length:Int)) (by omega),IntWalk.i64_in _ (by omega)]
 rw [w1,w2,show ((f.way.length:Int)-1).toNat=f.way.length-1 by omega]
 have no:noBegin f tx->(beginF f tx o).2.1.length=0/\false=(beginF f tx o).2.2/\f.disk.notes=(beginF f tx o).1.disk.notes/\f.disk.safe=(beginF f tx o).1.disk.safe/\f.way=(beginF f tx o).1.way:=fun h=>by
  rw [beginF,if_pos h];exact ⟨rfl,rfl,rfl,rfl,rfl⟩
 have yes:=fun h:¬ noBegin f tx=>show (f.way.length+1)*120<=140737488355328/\(placesL o).length<=1000/\toldF 1 tx o (placesL o)=(beginF f tx o).2.1/\true=(beginF f tx o).2.2/\f.disk.notes=(beginF f tx o).1.disk.notes/\f.disk.safe=(beginF f tx o).1.disk.safe /\
   cnRs (appR (typ dFTx eFTxO f.way) (raw [[CV.n .i64 tx,CV.n .i64 o.kind,CV.n .i64 o.who,CV.n .i64 o.inn,CV.n .i64 o.code,CV.n .i64 o.sec,CV.n .i64 o.fam,CV.n .i64 o.gen,CV.b false,CV.ow 3 nilR,CV.ow 3 nilR]]))=List.map nFTxO (beginF f tx o).1.way by
  have:=places_len3 o
  rw [beginF,if_neg h]
  refine ⟨by omega,by omega,told_send (.inl rfl),rfl,rfl,rfl,?_⟩
  simp
 refine ⟨fun h1=>⟨fun h2=>?_,fun h2=>no (.inr (.inl h2))⟩,fun h1=>no (.inl h1)⟩
 have h2:ofN f.disk.notes tx=0:=by simpa using h2
 refine ⟨fun h3=>⟨by omega,by omega,by omega,fun h4=>⟨fun h5=>no (.inr (.inr (.inr (by omega)))),fun h5=>yes ?_⟩,fun h4=>no (.inr (.inr (.inl ⟨by omega,h4⟩)))⟩,fun h3=>⟨fun h5=>no (.inr (.inr (.inr (by omega)))),fun h5=>yes ?_⟩⟩
 ·rintro (h | h | h | h)
  ·exact h1 h
  ·exact h h2
  ·exact h4 h.2
  ·omega
 ·rintro (h | h | h | h)
  ·exact h1 h
  ·exact h h2
  ·omega
  ·omega
def impl_FroState_begin_c:Con Tryz.prog:=conP [.ptr,.lend,.lend] fun (b:Front×Int×Opr) h=>impl_FroState_begin_ok (b.1) (b.2.1) (b.2.2) h
def begB (f:Front) (tx:Int) (o:Opr):Front×List Msg×Bool:=if (froB f&&inR tx 0 29&&opOk o)=true then beginF f tx o else (⟨⟨[],0⟩,[]⟩,[],false)
theorem impl_FroBegin_ok (f:Front) (tx:Int) (o:Opr):FunOK Tryz.prog 24 3 [] [(0,kFrontS f),(1,kI tx),(2,kOp o)] (·=[(3,⟨.tup [(true,3),(false,1),(false,1)],[.c (oNotes (begB f tx o).1.disk.notes),.c (.n .i64 (begB f tx o).1.disk.safe),.c (oFTxs (begB f tx o).1.way),.c (oMsgs (begB f tx o).2.1),.c (.b (begB f tx o).2.2)],[]⟩)]):=by
 refine fun_to (E:=⟨tab,ctOf [impl_FroOk_c,impl_FroState_copied_c,impl_OpOk_c,impl_isTx_c,impl_FroState_begin_c],37,[],[(0,[1,3,5,6,9,10,25,28,31,32,34,35]),(1,[1,3,5,6,9,10,24,25,28,31,32,34,35]),(2,[6,7,8,9,10,25,28,31,32,34,35]),(3,[1,5,6,9,25,34]),(4,[6,9,10,11,25,28,31,32,34]),(5,[6,7,8,9,10,25,28,31,32,34,35])],[],[(5,[(1000001,[])])],[],[]⟩) tab_ok mixed Tryz.func24 rfl Tryz.ntmps24 (rvs:=[.cell 6 38,.tmp 7,.tmp 8]) Tryz.results24 rfl fun hl=>?_
 refine cast (show (let k_1:Prop:=cnRs nilR=t_f (begB f tx o).1.disk.notes/\i_0=(begB f tx o).1.disk.safe/\cnRs nilR=t_j (begB f tx o).1.way/\(begB f tx o).2.1.length=n_0/\false=(begB f tx o).2.2;∃ (b:Front),(q_e f.disk.notes b.disk.notes/\f.disk.safe=b.disk.safe/\q_h f.way b.way)/\((!froB b)=false->∃ (b:Opr),(o.kind=b.kind/\o.who=b.who/\o.inn=b.inn/\o.code=b.code/\o.sec=b.sec/\o.fam=b.fam/\o.gen=b.gen)/\((!opOk b)=false->∃ (b:Int),tx=b/\((!inR b i_0 i_29)=true->k_1)/\((!inR b i_0 i_29)=false->∃ (b:Front),(q_e f.disk.notes b.disk.notes/\f.disk.safe=b.disk.safe/\q_h f.way b.way)/\smallF b/\(∃ (b_1:Front×Int×Opr),((q_f b.disk.notes b_1.1.disk.notes/\b.disk.safe=b_1.1.disk.safe/\q_j b.way b_1.1.way)/\tx=b_1.2.1/\o.kind=b_1.2.2.kind/\o.who=b_1.2.2.who/\o.inn=b_1.2.2.inn/\o.code=b_1.2.2.code/\o.sec=b_1.2.2.sec/\o.fam=b_1.2.2.fam/\o.gen=b_1.2.2.gen)/\smallF b_1.1/\q_f (beginF b_1.1 b_1.2.1 b_1.2.2).1.disk.notes (begB f tx o).1.disk.notes/\(beginF b_1.1 b_1.2.1 b_1.2.2).1.disk.safe=(begB f tx o).1.disk.safe/\q_j (beginF b_1.1 b_1.2.1 b_1.2.2).1.way (begB f tx o).1.way/\q_g (beginF b_1.1 b_1.2.1 b_1.2.2).2.1 (begB f tx o).2.1/\(beginF b_1.1 b_1.2.1 b_1.2.2).2.2=(begB f tx o).2.2)))/\((!opOk b)=true->k_1))/\((!froB b)=true->k_1))=_ by kernel_rfl) ?_
 delta i_0 n_0 i_29 t_e q_e t_f q_f t_g q_g t_h q_h t_j q_j
 simp only [zza,zzb,true_and,and_true,and_self,ne_eq,cI_app,cWrtO_app,cWrtS_app,cWrtO_1,cItemO_1,opr_ex,zcast,frz_nil,nil_map,Option.getD_none,Option.getD_some]
 have no:(froB f&&inR tx 0 29&&opOk o)=false->[]=(begB f tx o).1.disk.notes/\0=(begB f tx o).1.disk.safe/\[]=(begB f tx o).1.way/\(begB f tx o).2.1.length=0/\false=(begB f tx o).2.2:=fun h=>by
  simp only [begB,h];exact ⟨rfl,rfl,rfl,rfl,rfl⟩
 refine ⟨fun h1=>⟨fun h2=>⟨fun h3=>?_,fun h3=>?_⟩,fun h2=>?_⟩,fun h1=>?_⟩
 ·exact no (by simp at h3;simp [h3])
 ·simp only [Bool.not_eq_false'] at h1 h2 h3
  have e:begB f tx o=beginF f tx o:=by simp only [begB,h1,h2,h3,Bool.and_self,if_true]
  rw [e]
  exact ⟨(froB_iff.1 h1).small,(froB_iff.1 h1).small,rfl,rfl,rfl,rfl,rfl⟩
 ·exact no (by simp at h2;simp [h2])
 ·exact no (by simp at h1;simp [h1])
def impl_FroBegin_c:Con Tryz.prog:=con0 [.lend,.lend,.lend] fun b:Front×Int×Opr=>impl_FroBegin_ok (b.1) (b.2.1) (b.2.2)
end Go.Proofs.AI
namespace Go.Proofs.AI
open Go.RowKit Go.Proofs
set_option linter.unusedVariables false
set_option linter.unusedSimpArgs false
set_option maxRecDepth 100000
theorem places_pos {o:Opr} (h:opOk o=true):0<(placesL o).length:=by
 simp only [placesL,h]
 repeat' split
 all_goals simp_all
end Go.Proofs.AI
namespace Go.Proofs.AI
open Go.RowKit Go.Proofs
set_option linter.unusedVariables false
set_option linter.unusedSimpArgs false
set_option maxRecDepth 100000
theorem spec_FroBegin_ok (f:Front) (tx:Int) (o:Opr):FunOK Tryz.prog 25 3 [] [(0,kFrontS f),(1,kI tx),(2,kOp o)] (·=[(3,⟨.tup [(true,3),(false,1),(false,1)],[.c (oNotes (begB f tx o).1.disk.notes),.c (.n .i64 (begB f tx o).1.disk.safe),.c (oFTxs (begB f tx o).1.way),.c (oMsgs (begB f tx o).2.1),.c (.b (begB f tx o).2.2)],[]⟩)]):=by
 refine fun_to (E:=⟨tab,ctOf [spec_FroOk_c,spec_l6Copy_c,spec_l1In_c,spec_OpOk_c,spec_l6Begin_c],40,[],[(0,[1,3,5,6,10,25,26,27,32,34,37,38]),(1,[1,3,5,6,10,24,25,26,27,32,34,37,38]),(2,[6,7,8,10,25,26,27,32,34,37,38]),(3,[6,9,10,11,25,26,27,32,34,37]),(4,[6,7,8,10,25,26,27,32,34,37,38])],[],[(3,[(4,[29]),(2000004,[4])]),(4,[(1000002,[])])],[],[]⟩) tab_ok mixed Tryz.func25 rfl Tryz.ntmps25 (rvs:=[.cell 6 38,.tmp 7,.tmp 8]) Tryz.results25 rfl fun hl=>?_
 refine cast (show (let k_2:Prop:=∀ (k:Nat),True/\True;let k_1:Prop:=cnRs nilR=t_f (begB f tx o).1.disk.notes/\i_0=(begB f tx o).1.disk.safe/\cnRs nilR=t_j (begB f tx o).1.way/\cnRs (raw [])=t_g (begB f tx o).2.1/\false=(begB f tx o).2.2;∃ (b:Front),(q_e f.disk.notes b.disk.notes/\f.disk.safe=b.disk.safe/\q_h f.way b.way)/\((!froB b)=false->∃ (b:Int×Int×Int),(tx=b.1/\i_0=b.2.1/\i_29=b.2.2)/\((!inR b.1 b.2.1 b.2.2)=false->∃ (b:Opr),(o.kind=b.kind/\o.who=b.who/\o.inn=b.inn/\o.code=b.code/\o.sec=b.sec/\o.fam=b.fam/\o.gen=b.gen)/\((!opOk b)=true->k_1)/\((!opOk b)=false->∃ (b:Front),(q_e f.disk.notes b.disk.notes/\f.disk.safe=b.disk.safe/\q_h f.way b.way)/\smallF b/\(∃ (b_1:Front×Int×Opr),((cnRs (frozenRs (typ dNote eNoteO b.disk.notes))=t_e b_1.1.disk.notes/\b.disk.safe=b_1.1.disk.safe/\cnRs (frozenRs (typ dFTx eFTxO b.way))=t_h b_1.1.way)/\tx=b_1.2.1/\o.kind=b_1.2.2.kind/\o.who=b_1.2.2.who/\o.inn=b_1.2.2.inn/\o.code=b_1.2.2.code/\o.sec=b_1.2.2.sec/\o.fam=b_1.2.2.fam/\o.gen=b_1.2.2.gen)/\(b_1.1.disk.notes.length<=n_1000/\b_1.1.way.length<=n_1000)/\(∃ (b:Front),(q_e (beginF b_1.1 b_1.2.1 b_1.2.2).1.disk.notes b.disk.notes/\(beginF b_1.1 b_1.2.1 b_1.2.2).1.disk.safe=b.disk.safe/\cnRs (frozenRs (typ dFTx eFTxS (beginF b_1.1 b_1.2.1 b_1.2.2).1.way))=t_h b.way)/\smallF b/\(((∀ (k:Nat),True/\True/\k_2/\(∀ (k:Nat),True/\True/\k_2/\True)/\True)/\True/\(∀ (k:Nat),True/\True/\True/\True/\True/\True/\True/\True/\True/\k_2/\k_2/\True)/\True)/\True)/\q_f b.disk.notes (begB f tx o).1.disk.notes/\b.disk.safe=(begB f tx o).1.disk.safe/\q_j b.way (begB f tx o).1.way/\q_g (beginF b_1.1 b_1.2.1 b_1.2.2).2.1 (begB f tx o).2.1/\(beginF b_1.1 b_1.2.1 b_1.2.2).2.2=(begB f tx o).2.2))))/\((!inR b.1 b.2.1 b.2.2)=true->k_1))/\((!froB b)=true->k_1))=_ by kernel_rfl) ?_
 delta i_0 n_1000 i_29 t_e q_e t_f q_f t_g q_g t_h q_h t_j q_j
 simp only [zza,zzb,true_and,and_true,and_self,ne_eq,cI_app,cWrtO_app,cWrtS_app,cWrtO_1,cItemO_1,opr_ex,zcast,frz_nil,nil_map,Option.getD_none,Option.getD_some]
 have no:(froB f&&inR tx 0 29&&opOk o)=false->[]=(begB f tx o).1.disk.notes/\0=(begB f tx o).1.disk.safe/\[]=(begB f tx o).1.way/\[]=(begB f tx o).2.1/\false=(begB f tx o).2.2:=fun h=>by
  simp only [begB,h];exact ⟨rfl,rfl,rfl,rfl,rfl⟩
 refine ⟨fun h1=>⟨fun h2=>⟨fun h3=>no (by simp at h3;simp [h3]),fun h3=>?_⟩,fun h2=>no (by simp at h2;simp [h2])⟩,fun h1=>no (by simp at h1;simp [h1])⟩
 simp only [Bool.not_eq_false'] at h1 h2 h3
 have e:begB f tx o=beginF f tx o:=by simp only [begB,h1,h2,h3,Bool.and_self,if_true]
 have hf:=froB_iff.1 h1
 rw [e]
 exact ⟨hf.small,hf.small.1.1,hf.small.2.1,(begin_ok hf (by simpa [inR] using h2) h3).small,rfl,rfl,rfl,rfl,rfl⟩
def spec_FroBegin_c:Con Tryz.prog:=con0 [.lend,.lend,.lend] fun b:Front×Int×Opr=>spec_FroBegin_ok (b.1) (b.2.1) (b.2.2)
end Go.Proofs.AI
namespace Go.Proofs.AI
open Go.RowKit Go.Proofs
set_option linter.unusedVariables false
set_option linter.unusedSimpArgs false
set_option maxRecDepth 100000
def begDr (l:List Int):Front×Int×Opr :=
 let a:=frontD l 0 12
 ((a.1),([pickB l a.2 30,-1,30]:List Int).getD (([0,0,0,0,1,2]:List Int).getD (pickB l (a.2+1) 6).toNat 0).toNat 0,(opB l (a.2+2) 9).1)
theorem spec_DrawFroBegin_ok (l:List Int) (hpre:okU l):FunOK Tryz.prog 23 1 [] [(0,k1 (sU l))] (·=[(1,⟨.tup [(true,3),(false,1),(true,7)],[.c (oNotes (begDr (l.take 2000)).1.disk.notes),.c (.n .i64 (begDr (l.take 2000)).1.disk.safe),.c (oFTxs (begDr (l.take 2000)).1.way),.c (.n .i64 (begDr (l.take 2000)).2.1),.c (.n .i64 (begDr (l.take 2000)).2.2.kind),.c (.n .i64 (begDr (l.take 2000)).2.2.who),.c (.n .i64 (begDr (l.take 2000)).2.2.inn),.c (.n .i64 (begDr (l.take 2000)).2.2.code),.c (.n .i64 (begDr (l.take 2000)).2.2.sec),.c (.n .i64 (begDr (l.take 2000)).2.2.fam),.c (.n .i64 (begDr (l.take 2000)).2.2.gen)],[]⟩)]):=by
 refine fun_to (E:=⟨tab,ctOf [spec_l20Open_c,spec_l20Front_c,spec_rd_pick_c,spec_l20Op_c],22,[],[(0,[0,2,4,9]),(1,[2,4,5,7,9]),(2,[2,3,4,9])],[],[],[],[]⟩) tab_ok mixed Tryz.func23 rfl Tryz.ntmps23 (rvs:=[.cell 2 38,.tmp 3,.cell 4 44]) Tryz.results23 rfl fun hl=>?_
 refine cast (show (∃ (b:List Int),q_U l b/\∃ (b_1:y_6),((q_U (List.take n_2000 b) b_1.1/\zi n_0=zi b_1.2.1)/\i_12=b_1.2.2)/\(rdB b_1.1 b_1.2.1 n_4000/\b_1.2.2<i_1000000)/\∃ (b:y_6),((q_U b_1.1 b.1/\(zi (frontD b_1.1 b_1.2.1 b_1.2.2).2)=zi b.2.1)/\i_30=b.2.2)/\rdB b.1 b.2.1 n_1/\∃ (b_2:y_6),((q_U b.1 b_2.1/\(zi (b.2.1+n_1))=zi b_2.2.1)/\i_6=b_2.2.2)/\rdB b_2.1 b_2.2.1 n_1/\(i_0<=pickB b_2.1 b_2.2.1 b_2.2.2/\pickB b_2.1 b_2.2.1 b_2.2.2<zi n_6)/\(pickB b_2.1 b_2.2.1 b_2.2.2).toNat<n_6/\(i_0<=[i_0,i_0,i_0,i_0,i_1,i_2].getD (pickB b_2.1 b_2.2.1 b_2.2.2).toNat i_0/\[i_0,i_0,i_0,i_0,i_1,i_2].getD (pickB b_2.1 b_2.2.1 b_2.2.2).toNat i_0<zi n_3)/\([i_0,i_0,i_0,i_0,i_1,i_2].getD (pickB b_2.1 b_2.2.1 b_2.2.2).toNat i_0).toNat<n_3/\∃ (b_3:y_6),((q_U b_2.1 b_3.1/\(zi (b_2.2.1+n_1))=zi b_3.2.1)/\i_9=b_3.2.2)/\(rdB b_3.1 b_3.2.1 n_8/\b_3.2.2<i_1000000)/\q_f (frontD b_1.1 b_1.2.1 b_1.2.2).1.disk.notes (begDr (List.take n_2000 l)).1.disk.notes/\(frontD b_1.1 b_1.2.1 b_1.2.2).1.disk.safe=(begDr (List.take n_2000 l)).1.disk.safe/\q_j (frontD b_1.1 b_1.2.1 b_1.2.2).1.way (begDr (List.take n_2000 l)).1.way/\[pickB b.1 b.2.1 b.2.2,(-1:Int),i_30].getD ([i_0,i_0,i_0,i_0,i_1,i_2].getD (pickB b_2.1 b_2.2.1 b_2.2.2).toNat i_0).toNat i_0=(begDr (List.take n_2000 l)).2.1/\(opB b_3.1 b_3.2.1 b_3.2.2).1.kind=(begDr (List.take n_2000 l)).2.2.kind/\(opB b_3.1 b_3.2.1 b_3.2.2).1.who=(begDr (List.take n_2000 l)).2.2.who/\(opB b_3.1 b_3.2.1 b_3.2.2).1.inn=(begDr (List.take n_2000 l)).2.2.inn/\(opB b_3.1 b_3.2.1 b_3.2.2).1.code=(begDr (List.take n_2000 l)).2.2.code/\(opB b_3.1 b_3.2.1 b_3.2.2).1.sec=(begDr (List.take n_2000 l)).2.2.sec/\(opB b_3.1 b_3.2.1 b_3.2.2).1.fam=(begDr (List.take n_2000 l)).2.2.fam/\(opB b_3.1 b_3.2.1 b_3.2.2).1.gen=(begDr (List.take n_2000 l)).2.2.gen)=_ by kernel_rfl) ?_
 delta i_0 i_9 i_1 i_2 zi n_0 n_8 n_1 n_3 i_1000000 t_U q_U n_2000 y_6 i_6 i_12 i_30 n_6 t_f q_f t_j q_j n_4000
 simp only [zza,zzb,true_and,and_true,and_self,ne_eq,cI_app,cWrtO_app,cWrtS_app,cWrtO_1,cItemO_1,opr_ex,zcast,frz_nil,nil_map,Option.getD_none,Option.getD_some]
 have hr:rdB (l.take 2000) 0 4000:=⟨fun x hx=>hpre x (List.mem_of_mem_take hx),by omega⟩
 generalize l.take 2000=L at *
 have hd:=frontD_le 12 hr
 simp only [begDr]
 generalize frontD L 0 12=A at *
 have b:=pick_lt (l:=L) (p:=A.2+1) (n:=6) (rdB_le hr (by omega):rdB L (A.2+1) 1) (by omega)
 generalize pickB L (A.2+1) 6=i at *
 have hi:i=0∨i=1∨i=2∨i=3∨i=4∨i=5:=by omega
 have hk:0<=([0,0,0,0,1,2]:List Int).getD i.toNat 0/\([0,0,0,0,1,2]:List Int).getD i.toNat 0<3:=by rcases hi with rfl | rfl | rfl | rfl | rfl | rfl<;>decide
 exact ⟨hr,by omega,rdB_le hr (by omega),rdB_le hr (by omega),by omega,by omega,by omega,hk.1,hk.2,by omega,rdB_le hr (by omega),by omega,trivial,trivial,trivial,trivial,trivial,trivial,trivial,trivial,trivial,trivial,trivial⟩
def spec_DrawFroBegin_c:Con Tryz.prog:=conP [.lend] fun (b:List Int) h=>spec_DrawFroBegin_ok b h
end Go.Proofs.AI
namespace Go.Proofs.AI
open Go.RowKit Go.Proofs
set_option linter.unusedVariables false
set_option linter.unusedSimpArgs false
set_option maxRecDepth 100000
theorem getD_last {w:List FTx} {t:FTx}:(w++[t]).getD w.length dFTx=t:=by
 rw [List.getD_eq_getElem?_getD,List.getElem?_append_right (Nat.le_refl _)];simp
theorem at_last {d:Disk} {w:List FTx} {t:FTx} (h:okF ⟨d,w++[t]⟩):atF (w++[t]) t.tx=(w.length:Int):=by
 have:=h.at_eq (k:=w.length) (by simp)
 simp only [getD_last] at this
 exact this
theorem begin_new {f:Front} {tx:Int} {o:Opr} (hb:¬ noBegin f tx):beginF f tx o=(⟨f.disk,f.way++[⟨tx,o,false,[],[]⟩]⟩,sendF 1 tx o (placesL o),true):=by rw [beginF,if_neg hb]
theorem set_last {w:List FTx} {t u:FTx}:(w++[t]).set w.length u=w++[u]:=by simp
theorem hearB_told {f:Front} (hf:okF f) {k p tx:Int} (hk:k=4∨k=6∨k=7) (hp:1<=p/\p<=3) (ht:0<=tx/\tx<=29) :
  hearB f ⟨k,0,p,tx,⟨0,0,0,0,0,0,0⟩⟩=hearF f ⟨k,0,p,tx,⟨0,0,0,0,0,0,0⟩⟩:=by
 have h:msgB ⟨k,0,p,tx,⟨0,0,0,0,0,0,0⟩⟩=true:=by
  have e:(⟨0,0,0,0,0,0,0⟩:Opr)=dOpr:=rfl
  rcases hk with rfl | rfl | rfl<;>simp [msgB,inR,ht,hp,e]
 simp only [hearB,froB_iff.2 hf,h,decide_true,Bool.and_self,if_true]
theorem places3 {o:Opr} (h:opOk o=true):placesL o=[1,3]∨placesL o=[1,2,3]∨placesL o=[2,3]:=by
 simp only [placesL,h,if_true]
 repeat' split
 all_goals simp
theorem putNext {P:List Int} (hP:P=[1,3]∨P=[1,2,3]∨P=[2,3]) {b:Nat} (hb:b<P.length) :
  (1<=P.getD b 0/\P.getD b 0<=3)/\putP (P.take b) (P.getD b 0)=P.take (b+1)/\(lessP P (P.take (b+1))).length=P.length-(b+1):=by
 rcases hP with rfl | rfl | rfl<;>rcases b with _ | _ | _ | b<;>first | decide | (simp only [List.length_cons,List.length_nil] at hb;omega)
def doneD (f:Front) (tx:Int):Disk:=⟨f.disk.notes++[⟨2,tx,[],[]⟩],(f.disk.notes.length:Int)+1⟩
def canS (f:Front) (tx:Int) (o:Opr) (b:Nat):Front:=if b<(placesL o).length then ⟨f.disk,f.way++[⟨tx,o,false,(placesL o).take b,[]⟩]⟩ else ⟨doneD f tx,f.way++[⟨tx,o,true,placesL o,[]⟩]⟩
theorem endCan {f:Front} {tx:Int} {o:Opr} (hf:okF f) (ht:0<=tx/\tx<=29) (h3:opOk o=true) (hn:¬ noBegin f tx) {b:Nat} (hb:b<(placesL o).length) (hX:okF (canS f tx o b)) :
  (hearB (canS f tx o b) ⟨4,0,(placesL o).getD b 0,tx,⟨0,0,0,0,0,0,0⟩⟩).1=canS f tx o (b+1)/\okF (canS f tx o (b+1)):=by
 obtain ⟨hp,q1,q2⟩:=putNext (places3 h3) hb
 obtain ⟨n1,n2,n3⟩:=begin_free hf hn
 have key:(hearB (canS f tx o b) ⟨4,0,(placesL o).getD b 0,tx,⟨0,0,0,0,0,0,0⟩⟩).1=canS f tx o (b+1):=by
  rw [hearB_told hX (.inl rfl) hp ht]
  rw [canS,if_pos hb] at hX ⊢
  have hA:=at_last hX
  simp only at hA
  simp only [hearF,hA,yesAt,Int.toNat_natCast,getD_last]
  rw [if_neg (by omega),if_pos (by simp)]
  simp only [canF,getD_last,canT,setT,set_last,q1,q2]
  by_cases hc:0<(placesL o).length-(b+1)
  ·rw [if_pos hc,canS,if_pos (by omega)]
  ·have hd:addD f.disk ⟨2,tx,[],[]⟩ true=(doneD f tx,true):=by
    simp only [addD,hf.fd,note_yes (k:=2) (.inl rfl) ht,Bool.and_self,if_true,doneD]
    rw [if_neg (by omega)]
   rw [if_neg hc,hd,if_pos rfl,canS,if_neg (by omega),yesT]
   simp only
   rw [List.take_of_length_le (by omega)]
 refine ⟨key,?_⟩
 have:=hear_ok (m:=⟨4,0,(placesL o).getD b 0,tx,⟨0,0,0,0,0,0,0⟩⟩) hX hp
 rw [<- hearB_told hX (.inl rfl) hp ht,key] at this
 exact this
def canR (f:Front) (tx:Int) (o:Opr) (b:Nat):Front:=if b<(placesL o).length then ⟨f.disk,f.way++[⟨tx,o,false,(placesL o).drop ((placesL o).length-b),[]⟩]⟩ else ⟨doneD f tx,f.way++[⟨tx,o,true,placesL o,[]⟩]⟩
theorem putPrev {P:List Int} (hP:P=[1,3]∨P=[1,2,3]∨P=[2,3]) {b:Nat} (hb:b<P.length) :
  (1<=P.getD (P.length-1-b) 0/\P.getD (P.length-1-b) 0<=3)/\putP (P.drop (P.length-b)) (P.getD (P.length-1-b) 0)=P.drop (P.length-(b+1))/\(lessP P (P.drop (P.length-(b+1)))).length=P.length-(b+1):=by
 rcases hP with rfl | rfl | rfl<;>rcases b with _ | _ | _ | b<;>first | decide | (simp only [List.length_cons,List.length_nil] at hb;omega)
theorem canStep {f:Front} {tx:Int} {o:Opr} (hf:okF f) (ht:0<=tx/\tx<=29) (hn:¬ noBegin f tx) {c:List Int} {p:Int} (hp:1<=p/\p<=3) (hX:okF ⟨f.disk,f.way++[⟨tx,o,false,c,[]⟩]⟩) :
  hearB ⟨f.disk,f.way++[⟨tx,o,false,c,[]⟩]⟩ ⟨4,0,p,tx,⟨0,0,0,0,0,0,0⟩⟩=if 0<(lessP (placesL o) (putP c p)).length then (⟨f.disk,f.way++[⟨tx,o,false,putP c p,[]⟩]⟩,[],[]) else (⟨doneD f tx,f.way++[⟨tx,o,true,putP c p,[]⟩]⟩,sendF 2 tx dOpr [1,2,3],[⟨tx,true⟩]):=by
 obtain ⟨n1,n2,n3⟩:=begin_free hf hn
 rw [hearB_told hX (.inl rfl) hp ht]
 have hA:=at_last hX
 simp only at hA
 simp only [hearF,hA,yesAt,Int.toNat_natCast,getD_last]
 rw [if_neg (by omega),if_pos (by simp)]
 have hd:addD f.disk ⟨2,tx,[],[]⟩ true=(doneD f tx,true):=by
  simp only [addD,hf.fd,note_yes (k:=2) (.inl rfl) ht,Bool.and_self,if_true,doneD]
  rw [if_neg (by omega)]
 simp only [canF,getD_last,canT,setT,set_last,hd,yesT,if_true]
theorem ordL {f:Front} {tx:Int} {o:Opr} (hf:okF f) (ht:0<=tx/\tx<=29) (h3:opOk o=true) (hn:¬ noBegin f tx) {b:Nat} (hb:b<(placesL o).length) (hX:okF (canS f tx o b)) :
  (hearB (canS f tx o b) ⟨4,0,(placesL o).getD b 0,tx,⟨0,0,0,0,0,0,0⟩⟩).2.2.length=if b+1<(placesL o).length then 0 else 1:=by
 obtain ⟨hp,q1,q2⟩:=putNext (places3 h3) hb
 rw [canS,if_pos hb] at hX ⊢
 rw [canStep hf ht hn hp hX,q1,q2]
 by_cases hc:b+1<(placesL o).length
 ·rw [if_pos (by omega),if_pos hc]<;>rfl
 ·rw [if_neg (by omega),if_neg hc]<;>rfl
theorem ordR {f:Front} {tx:Int} {o:Opr} (hf:okF f) (ht:0<=tx/\tx<=29) (h3:opOk o=true) (hn:¬ noBegin f tx) {b:Nat} (hb:b<(placesL o).length) (hX:okF (canR f tx o b)) :
  (hearB (canR f tx o b) ⟨4,0,(placesL o).getD ((placesL o).length-1-b) 0,tx,⟨0,0,0,0,0,0,0⟩⟩).1=canR f tx o (b+1)/\okF (canR f tx o (b+1)) /\
  (hearB (canR f tx o b) ⟨4,0,(placesL o).getD ((placesL o).length-1-b) 0,tx,⟨0,0,0,0,0,0,0⟩⟩).2.2.length=if b+1<(placesL o).length then 0 else 1:=by
 obtain ⟨hp,q1,q2⟩:=putPrev (places3 h3) hb
 have key:(hearB (canR f tx o b) ⟨4,0,(placesL o).getD ((placesL o).length-1-b) 0,tx,⟨0,0,0,0,0,0,0⟩⟩).1=canR f tx o (b+1)/\(hearB (canR f tx o b) ⟨4,0,(placesL o).getD ((placesL o).length-1-b) 0,tx,⟨0,0,0,0,0,0,0⟩⟩).2.2.length=if b+1<(placesL o).length then 0 else 1:=by
  rw [canR,if_pos hb] at hX ⊢
  rw [canStep hf ht hn hp hX,q1,q2]
  by_cases hc:b+1<(placesL o).length
  ·rw [if_pos (by omega),if_pos hc,canR,if_pos hc];exact ⟨rfl,rfl⟩
  ·rw [if_neg (by omega),if_neg hc,canR,if_neg hc,show (placesL o).length-(b+1)=0 by omega];exact ⟨rfl,rfl⟩
 refine ⟨key.1,?_,key.2⟩
 have:=hear_ok (m:=⟨4,0,(placesL o).getD ((placesL o).length-1-b) 0,tx,⟨0,0,0,0,0,0,0⟩⟩) hX hp
 rw [<- hearB_told hX (.inl rfl) hp ht,key.1] at this
 exact this
theorem laws_FnFroOrder_ok (l:List Int) (hpre:okU l):FunOK Tryz.prog 4 1 [] [(0,k1 (sU l))] (·=[(1,kB true)]):=by
 refine fun_to (E:=⟨tabM,ctOf [impl_FroHear_c,spec_DrawFroBegin_c,impl_FroBegin_c,spec_FroBegin_c,laws_jaOk_c,impl_OpPlaces_c,laws_jaFront_c,impl_DiskOf_c,impl_FroOk_c],123,[],[(0,[0]),(1,[0,24]),(2,[2]),(3,[3,4,5]),(4,[3,4,5,6,8]),(5,[4,5,6,8,11]),(6,[4,5,6,8,49]),(7,[2]),(8,[4,5,6,51]),(9,[2]),(10,[4,6,12,54]),(11,[4,6,12,13,54]),(12,[4,12,13,14,54]),(13,[4,12,13,14,15,54]),(14,[4,12,13,14,15,54,60]),(15,[4,12,13,14,15,54]),(16,[4,12,13,14,15,16,18,54,63,71,74]),(17,[4,12,13,14,15,16,18,19,21,54,63,71,74,75,87,90]),(18,[4,12,13,14,15,18,19,21,54,63,71,74,75,87,90]),(19,[4,12,13,14,15,18,21,54,63,71,74,75,87,90]),(20,[4,12,13,14,15,54,108]),(21,[2]),(22,[2])],[(0,⟨List Note×Int×List FTx×List Note×Int×List FTx×Nat,fun x=>[(4,(k1 (.n .i64 ((begDr (List.take (2000:Nat) l)).snd.fst)))),(12,(k1 (.ow 3 (typ (0:Int) eI (placesL (begDr (List.take (2000:Nat) l)).snd.snd))))),(13,⟨.box,[.c (sNotes (x.1)),.c (.n .i64 (x.2.1)),.c (sFTxs (x.2.2.1))],[]⟩),(14,⟨.box,[.c (sNotes (x.2.2.2.1)),.c (.n .i64 (x.2.2.2.2.1)),.c (sFTxs (x.2.2.2.2.2.1))],[]⟩),(15,(k1 (.n .i64 (x.2.2.2.2.2.2:Int)))),(54,(k1 .any))]⟩)],[(3,[(2,[27])]),(4,[(4,[35])]),(5,[(4,[43])]),(16,[(8,[71])]),(17,[(12,[87])]),(20,[(1000010,[]),(1000012,[])])],[],[]⟩) tabM_ok mixed Tryz.func4 rfl Tryz.ntmps4 (rvs:=[.tmp 2]) Tryz.results4 rfl fun hl=>?_
 refine cast (show ((decide ((zi l.length)>i_1048576)=true->true=true)/\(decide ((zi l.length)>i_1048576)=false->∃ (b:List Int),q_U l b/\okU b/\∃ (b_1:Front×Int×Opr),((cnRs (frozenRs (typ dNote eNoteO (begDr (List.take n_2000 b)).1.disk.notes))=t_e b_1.1.disk.notes/\(begDr (List.take n_2000 b)).1.disk.safe=b_1.1.disk.safe/\cnRs (frozenRs (typ dFTx eFTxO (begDr (List.take n_2000 b)).1.way))=t_h b_1.1.way)/\(begDr (List.take n_2000 b)).2.1=b_1.2.1/\(begDr (List.take n_2000 b)).2.2.kind=b_1.2.2.kind/\(begDr (List.take n_2000 b)).2.2.who=b_1.2.2.who/\(begDr (List.take n_2000 b)).2.2.inn=b_1.2.2.inn/\(begDr (List.take n_2000 b)).2.2.code=b_1.2.2.code/\(begDr (List.take n_2000 b)).2.2.sec=b_1.2.2.sec/\(begDr (List.take n_2000 b)).2.2.fam=b_1.2.2.fam/\(begDr (List.take n_2000 b)).2.2.gen=b_1.2.2.gen)/\∃ (b_2:Front×Int×Opr),((cnRs (frozenRs (typ dNote eNoteO (begDr (List.take n_2000 b)).1.disk.notes))=t_e b_2.1.disk.notes/\(begDr (List.take n_2000 b)).1.disk.safe=b_2.1.disk.safe/\cnRs (frozenRs (typ dFTx eFTxO (begDr (List.take n_2000 b)).1.way))=t_h b_2.1.way)/\(begDr (List.take n_2000 b)).2.1=b_2.2.1/\(begDr (List.take n_2000 b)).2.2.kind=b_2.2.2.kind/\(begDr (List.take n_2000 b)).2.2.who=b_2.2.2.who/\(begDr (List.take n_2000 b)).2.2.inn=b_2.2.2.inn/\(begDr (List.take n_2000 b)).2.2.code=b_2.2.2.code/\(begDr (List.take n_2000 b)).2.2.sec=b_2.2.2.sec/\(begDr (List.take n_2000 b)).2.2.fam=b_2.2.2.fam/\(begDr (List.take n_2000 b)).2.2.gen=b_2.2.2.gen)/\((if true=true then !(begB b_1.1 b_1.2.1 b_1.2.2).2.2==(begB b_2.1 b_2.2.1 b_2.2.2).2.2 else (begB b_1.1 b_1.2.1 b_1.2.2).2.2==(begB b_2.1 b_2.2.1 b_2.2.2).2.2)=true->false=true)/\((if true=true then !(begB b_1.1 b_1.2.1 b_1.2.2).2.2==(begB b_2.1 b_2.2.1 b_2.2.2).2.2 else (begB b_1.1 b_1.2.1 b_1.2.2).2.2==(begB b_2.1 b_2.2.1 b_2.2.2).2.2)=false->((!(begB b_1.1 b_1.2.1 b_1.2.2).2.2)=true->∃ (b:Unit),True/\true=true)/\((!(begB b_1.1 b_1.2.1 b_1.2.2).2.2)=false->∃ (b_3:Opr),((begDr (List.take n_2000 b)).2.2.kind=b_3.kind/\(begDr (List.take n_2000 b)).2.2.who=b_3.who/\(begDr (List.take n_2000 b)).2.2.inn=b_3.inn/\(begDr (List.take n_2000 b)).2.2.code=b_3.code/\(begDr (List.take n_2000 b)).2.2.sec=b_3.sec/\(begDr (List.take n_2000 b)).2.2.fam=b_3.fam/\(begDr (List.take n_2000 b)).2.2.gen=b_3.gen)/\∃ (pre:y_34->Prop),∃ (μ:y_34->Nat),∃ (x0:y_34),((begDr (List.take n_2000 b)).2.1=(begDr (List.take n_2000 l)).2.1/\q_I (placesL b_3) (placesL (begDr (List.take n_2000 l)).2.2)/\(cnRs (frozenRs (typ dNote eNoteO (begB b_1.1 b_1.2.1 b_1.2.2).1.disk.notes))=t_e x0.1/\(begB b_1.1 b_1.2.1 b_1.2.2).1.disk.safe=x0.2.1/\cnRs (frozenRs (typ dFTx eFTxO (begB b_1.1 b_1.2.1 b_1.2.2).1.way))=t_h x0.2.2.1)/\(cnRs (frozenRs (typ dNote eNoteO (begB b_1.1 b_1.2.1 b_1.2.2).1.disk.notes))=t_e x0.2.2.2.1/\(begB b_1.1 b_1.2.1 b_1.2.2).1.disk.safe=x0.2.2.2.2.1/\cnRs (frozenRs (typ dFTx eFTxO (begB b_1.1 b_1.2.1 b_1.2.2).1.way))=t_h x0.2.2.2.2.2.1)/\i_0=zi x0.2.2.2.2.2.2/\True)/\pre x0/\∀ (x:y_34),pre x->(decide (zi x.2.2.2.2.2.2<(zi (placesL (begDr (List.take n_2000 l)).2.2).length))=true->(i_0<=zi x.2.2.2.2.2.2/\zi x.2.2.2.2.2.2<(zi (placesL (begDr (List.take n_2000 l)).2.2).length))/\(zi x.2.2.2.2.2.2).toNat<(placesL (begDr (List.take n_2000 l)).2.2).length/\∃ (b:Front×Msg),((q_e x.1 b.1.disk.notes/\x.2.1=b.1.disk.safe/\q_h x.2.2.1 b.1.way)/\i_4=b.2.kind/\i_0=b.2.to/\g_Int (placesL (begDr (List.take n_2000 l)).2.2) x.2.2.2.2.2.2=b.2.frm/\(begDr (List.take n_2000 l)).2.1=b.2.tx/\i_0=b.2.op.kind/\i_0=b.2.op.who/\i_0=b.2.op.inn/\i_0=b.2.op.code/\i_0=b.2.op.sec/\i_0=b.2.op.fam/\i_0=b.2.op.gen)/\(i_0<=wr_ (wr_ ((zi (placesL (begDr (List.take n_2000 l)).2.2).length)-i_1)-(zi x.2.2.2.2.2.2))/\wr_ (wr_ ((zi (placesL (begDr (List.take n_2000 l)).2.2).length)-i_1)-(zi x.2.2.2.2.2.2))<(zi (placesL (begDr (List.take n_2000 l)).2.2).length))/\(wr_ (wr_ ((zi (placesL (begDr (List.take n_2000 l)).2.2).length)-i_1)-(zi x.2.2.2.2.2.2))).toNat<(placesL (begDr (List.take n_2000 l)).2.2).length/\∃ (b_4:Front×Msg),((q_e x.2.2.2.1 b_4.1.disk.notes/\x.2.2.2.2.1=b_4.1.disk.safe/\q_h x.2.2.2.2.2.1 b_4.1.way)/\i_4=b_4.2.kind/\i_0=b_4.2.to/\(placesL (begDr (List.take n_2000 l)).2.2).getD (wr_ (wr_ ((zi (placesL (begDr (List.take n_2000 l)).2.2).length)-i_1)-(zi x.2.2.2.2.2.2))).toNat i_0=b_4.2.frm/\(begDr (List.take n_2000 l)).2.1=b_4.2.tx/\i_0=b_4.2.op.kind/\i_0=b_4.2.op.who/\i_0=b_4.2.op.inn/\i_0=b_4.2.op.code/\i_0=b_4.2.op.sec/\i_0=b_4.2.op.fam/\i_0=b_4.2.op.gen)/\((if true=true then !((zi (hearB b.1 b.2).2.2.length)==i_1)==(zi x.2.2.2.2.2.2==wr_ ((zi (placesL (begDr (List.take n_2000 l)).2.2).length)-i_1)) else ((zi (hearB b.1 b.2).2.2.length)==i_1)==(zi x.2.2.2.2.2.2==wr_ ((zi (placesL (begDr (List.take n_2000 l)).2.2).length)-i_1)))=false->(((zi (hearB b.1 b.2).2.2.length) != (zi (hearB b_4.1 b_4.2).2.2.length))=true->false=true)/\(((zi (hearB b.1 b.2).2.2.length) != (zi (hearB b_4.1 b_4.2).2.2.length))=false->∃ (y:y_34),((begDr (List.take n_2000 l)).2.1=(begDr (List.take n_2000 l)).2.1/\q_I (placesL (begDr (List.take n_2000 l)).2.2) (placesL (begDr (List.take n_2000 l)).2.2)/\(cnRs (frozenRs (typ dNote eNoteO (hearB b.1 b.2).1.disk.notes))=t_e y.1/\(hearB b.1 b.2).1.disk.safe=y.2.1/\cnRs (frozenRs (typ dFTx eFTxO (hearB b.1 b.2).1.way))=t_h y.2.2.1)/\(cnRs (frozenRs (typ dNote eNoteO (hearB b_4.1 b_4.2).1.disk.notes))=t_e y.2.2.2.1/\(hearB b_4.1 b_4.2).1.disk.safe=y.2.2.2.2.1/\cnRs (frozenRs (typ dFTx eFTxO (hearB b_4.1 b_4.2).1.way))=t_h y.2.2.2.2.2.1)/\wr_ ((zi x.2.2.2.2.2.2)+i_1)=zi y.2.2.2.2.2.2/\True)/\pre y/\μ y<μ x))/\((if true=true then !((zi (hearB b.1 b.2).2.2.length)==i_1)==(zi x.2.2.2.2.2.2==wr_ ((zi (placesL (begDr (List.take n_2000 l)).2.2).length)-i_1)) else ((zi (hearB b.1 b.2).2.2.length)==i_1)==(zi x.2.2.2.2.2.2==wr_ ((zi (placesL (begDr (List.take n_2000 l)).2.2).length)-i_1)))=true->false=true))/\(decide (zi x.2.2.2.2.2.2<(zi (placesL (begDr (List.take n_2000 l)).2.2).length))=false->∃ (b:Front×Front),((q_e x.1 b.1.disk.notes/\x.2.1=b.1.disk.safe/\q_h x.2.2.1 b.1.way)/\q_e x.2.2.2.1 b.2.disk.notes/\x.2.2.2.2.1=b.2.disk.safe/\q_h x.2.2.2.2.2.1 b.2.way)/\(decide (b.1=b.2)=true->∃ (b:Disk×Int),((q_e x.1 b.1.notes/\x.2.1=b.1.safe)/\(begDr (List.take n_2000 l)).2.1=b.2)/\(((if diskB b.1=true then ofN b.1.notes b.2 else i_0)==i_2)=true->∃ (b:Front),(q_e x.1 b.disk.notes/\x.2.1=b.disk.safe/\q_h x.2.2.1 b.way)/\froB b=true)/\(((if diskB b.1=true then ofN b.1.notes b.2 else i_0)==i_2)=false->false=true))/\(decide (b.1=b.2)=false->false=true))))))=_ by kernel_rfl) ?_
 delta i_0 i_1 i_2 i_4 wr_ g_Int zi t_I q_I t_U q_U n_2000 t_e q_e t_h q_h i_1048576 y_34
 simp (config:={ maxSteps:=2000000 }) only [zza,zzb,true_and,and_true,and_self,ne_eq,cI_app,cWrtO_app,cWrtS_app,cWrtO_1,cItemO_1,opr_ex,zcast,frz_nil,nil_map,Option.getD_none,Option.getD_some,if_true]
 intro _
 refine ⟨hpre,?_⟩
 generalize (begDr (List.take 2000 l)).1=f
 generalize (begDr (List.take 2000 l)).2.1=tx
 generalize (begDr (List.take 2000 l)).2.2=o
 refine ⟨fun h=>by simp at h,fun _=>⟨fun _=>⟨(),trivial⟩,fun hy=>?_⟩⟩
 have hy:(begB f tx o).2.2=true:=by simpa only [Bool.not_eq_false'] using hy
 have hv:(froB f&&inR tx 0 29&&opOk o)=true:=by
  rcases Bool.eq_false_or_eq_true (froB f&&inR tx 0 29&&opOk o) with hv | hv
  ·exact hv
  ·simp only [begB,hv] at hy;cases hy
 have e:begB f tx o=beginF f tx o:=by simp only [begB,hv,if_true]
 simp only [Bool.and_eq_true] at hv
 obtain ⟨⟨h1,h2⟩,h3⟩:=hv
 have hf:=froB_iff.1 h1
 have ht:0<=tx/\tx<=29:=by simpa [inR] using h2
 have hn:¬ noBegin f tx:=fun hb=>by rw [e,beginF,if_pos hb] at hy;cases hy
 have hX:=begin_ok hf ht h3
 rw [begin_new hn] at hX
 have hpos:=places_pos h3
 have h3l:=places_len3 o
 rw [e,begin_new hn]
 have hC0:(⟨f.disk,f.way++[⟨tx,o,false,[],[]⟩]⟩:Front)=canS f tx o 0:=by rw [canS,if_pos hpos]<;>rfl
 have hR0:(⟨f.disk,f.way++[⟨tx,o,false,[],[]⟩]⟩:Front)=canR f tx o 0:=by rw [canR,if_pos hpos,Nat.sub_zero,List.drop_length]
 have w1:IntKind.i64.wrap (((placesL o).length:Int)-1)=((placesL o).length:Int)-1:=IntWalk.i64_in _ (by omega)
 refine ⟨fun z=>(⟨⟨z.1,z.2.1⟩,z.2.2.1⟩:Front)=canS f tx o z.2.2.2.2.2.2/\(⟨⟨z.2.2.2.1,z.2.2.2.2.1⟩,z.2.2.2.2.2.1⟩:Front)=canR f tx o z.2.2.2.2.2.2/\z.2.2.2.2.2.2<=(placesL o).length/\okF (canS f tx o z.2.2.2.2.2.2)/\okF (canR f tx o z.2.2.2.2.2.2),⟨hC0,hR0,by simp,?_,?_⟩,fun z=>(placesL o).length-z.2.2.2.2.2.2,fun a1 a2 a3 c1 c2 c3 b hb=>?_⟩
 ·show okF (canS f tx o 0)
  rw [<- hC0];exact hX
 ·show okF (canR f tx o 0)
  rw [<- hR0];exact hX
 simp only at hb
 obtain ⟨g1,g2,g3,g4,g5⟩:=hb
 refine ⟨fun hlt=>?_,fun hge=>?_⟩
 ·have hl:b<(placesL o).length:=by omega
  rw [g1,g2]
  obtain ⟨k1,k2⟩:=endCan hf ht h3 hn hl g4
  have k3:=ordL hf ht h3 hn hl g4
  obtain ⟨d1,d2,d3⟩:=ordR hf ht h3 hn hl g5
  have w2:IntKind.i64.wrap (((placesL o).length:Int)-1-(b:Int))=(((placesL o).length-1-b:Nat):Int):=by rw [IntWalk.i64_in _ (by omega)];omega
  simp only [w1,w2,Int.toNat_natCast,k1,k3,d1,d3]
  refine ⟨by omega,hlt,hl,by omega,by omega,by omega,fun _=>⟨fun h=>by first | exact absurd trivial h | exact absurd rfl h,fun _=>⟨b+1,wrapN (by omega),⟨by first | trivial | rfl,by first | trivial | rfl,by omega,k2,d2⟩,by first | omega | (simp only;omega)⟩⟩,fun h=>?_⟩
  by_cases hc:b+1<(placesL o).length
  ·have:¬ (b:Int)=((placesL o).length:Int)-1:=by omega
   simp [hc,this] at h
  ·have:(b:Int)=((placesL o).length:Int)-1:=by omega
   simp [hc,this] at h
 obtain rfl:b=(placesL o).length:=by omega
 have hS:canS f tx o (placesL o).length=⟨doneD f tx,f.way++[⟨tx,o,true,placesL o,[]⟩]⟩:=by rw [canS,if_neg (by omega)]
 have hR:canR f tx o (placesL o).length=⟨doneD f tx,f.way++[⟨tx,o,true,placesL o,[]⟩]⟩:=by rw [canR,if_neg (by omega)]
 rw [hS] at g1 g4
 rw [hR] at g2
 injection g1 with m1 m2
 injection m1 with m3 m4
 injection g2 with n1 n2
 injection n1 with n3 n4
 subst m2 m3 m4 n2 n3 n4
 refine ⟨fun _=>⟨fun _=>froB_iff.2 g4,fun h=>absurd ?_ h⟩,fun h=>absurd rfl h⟩
 have hfd:diskB ⟨f.disk.notes++[⟨2,tx,[],[]⟩],(f.disk.notes.length:Int)+1⟩=true:=g4.fd
 try simp only [doneD]
 rw [if_pos hfd]
 rw [ofN_app,if_pos ⟨rfl,(by decide:(2:Int)≠4)⟩]
end Go.Proofs.AI
