/- Data, how they lie in memory, and contracts of functions. Conditions: none. -/
import Derived.Orders
import Derived.Tactics
import Derived.Laws.BytesArg
import Derived.Test.YthahcnabgjgpfabGreatDoorK00
namespace Go.Proofs.AI
open Go.RowKit
set_option linter.unusedVariables false
set_option linter.unusedSimpArgs false
def Sub (σ σ':St):Prop:=∀ k K,σ k=some K->σ' k=some K
theorem Sub.refl (σ:St):Sub σ σ:=fun _ _ h=>h
def loc (R:List Nat) (σ:St):St:=fun k=>if k∈R then σ k else none
theorem loc_sub (R:List Nat) (σ:St):Sub (loc R σ) σ:=fun k K h=>by
 unfold loc at h
 split at h
 ·exact h
 ·cases h
theorem loc_in {R:List Nat} {σ:St} {k:Nat} (h:k∈R):loc R σ k=σ k:=by simp [loc,h]
def isBx (σ:St) (t:Nat):Prop:=∃ cells lg,σ t=some ⟨.box,cells,lg⟩/\gone lg 0=false
def Bxs (S:List Nat) (σ:St):Prop:=∀ t∈S,isBx σ t
def okBx (S:List Nat) (outs:List (Nat×Ky)):Bool:=outs.all fun p=>!S.contains p.1||(p.2.sh==.box&&!gone p.2.log 0)
theorem bxs_nil (σ:St):Bxs [] σ:=fun t ht=>by simp at ht
theorem bxs_ups {S:List Nat}:∀ (outs:List (Nat×Ky)) {σ:St},Bxs S σ->okBx S outs=true->Bxs S (ups σ outs)
 | [],σ,h,_=>h
 | (d,K)::r,σ,h,ho=>by
  simp only [okBx,List.all_cons,Bool.and_eq_true] at ho
  refine bxs_ups r (fun t ht=>?_) ho.2
  by_cases e:t=d
  ·subst e
   have h1:=ho.1
   simp [ht] at h1
   obtain ⟨sh,cells,lg⟩:=K
   simp only at h1
   exact ⟨cells,lg,by simp [up,h1.1],h1.2⟩
  ·obtain ⟨cells,lg,h1,h2⟩:=h t ht
   exact ⟨cells,lg,by simp [up,e,h1],h2⟩
def OpS (P:Program) (S:List Nat) (ops:Array Oper) (i:Nat) (σ:St) (outs:List (Nat×Ky)):Prop :=
 ∀ σ',Bxs S σ'->Sub σ σ'->(∀ o d,ops[i]?=some o->o.dst=some d->σ' d=σ d)->∀ (cx:Cx) (a:Act) (w:World),cx.P=P->Rel cx σ' a w ->
  (∀ o d,ops[i]?=some o->o.dst=some d->d<cx.n)->∀ (K:Act->World->Prop) (Q:Exit->Act->World->Prop),
  (∀ a' w',Rel cx (ups σ' outs) a' w'->K a' w')->wpOp P ops Q i K a w
theorem ups_eq (outs:List (Nat×Ky)):∀ (σ:St) (k:Nat),(∀ K,(k,K) ∉ outs)->ups σ outs k=σ k:=by
 induction outs with
 | nil=>intro σ k _;rfl
 | cons x r ih =>
  intro σ k h
  obtain ⟨d,K⟩:=x
  simp only [ups]
  rw [ih _ _ (fun K' hK=>h K' (List.mem_cons_of_mem _ hK))]
  have:k≠d:=fun e=>h K (by rw [e];exact List.mem_cons_self ..)
  simp [up,this]
theorem ups_same (outs:List (Nat×Ky)):∀ (σ σ':St) (k:Nat),(∃ K,(k,K)∈outs)∨σ k=σ' k->ups σ outs k=ups σ' outs k:=by
 induction outs with
 | nil =>
     intro σ σ' k h;rcases h with ⟨K,h⟩ | h
     ·simp at h
     ·exact h
 | cons x r ih =>
  intro σ σ' k h
  obtain ⟨d,K0⟩:=x
  simp only [ups]
  apply ih
  by_cases hk:k=d
  ·exact .inr (by simp [up,hk])
  ·rcases h with ⟨K,h⟩ | h
   ·rcases List.mem_cons.1 h with h | h
    ·exact absurd (congrArg Prod.fst h) hk
    ·exact .inl ⟨K,h⟩
   ·exact .inr (by simp [up,hk,h])
structure RW where
 r:List Nat
 w:List Nat
def RW.apart (x y:RW):Bool:=x.w.all (fun k=>!y.r.contains k&&!y.w.contains k)&&y.w.all (fun k=>!x.r.contains k&&!x.w.contains k)
theorem RW.apart_symm {x y:RW} (h:x.apart y=true):y.apart x=true:=by
 unfold RW.apart at *
 rw [Bool.and_comm];exact h
theorem RW.apart_r {x y:RW} (h:x.apart y=true) {k:Nat} (hk:k∈x.w):k ∉ y.r/\k ∉ y.w:=by
 simp only [RW.apart,Bool.and_eq_true,List.all_eq_true] at h
 have:=h.1 k hk
 simpa using this
inductive Tr (P:Program) (S:List Nat) (ops:Array Oper) (rw:Nat->RW):List Nat->St->St->Prop where
 | nil (σ:St):Tr P S ops rw [] σ σ
 | cons {i:Nat} {l:List Nat} {σ τ:St} (outs:List (Nat×Ky)) (hd:∀ o d,ops[i]?=some o->o.dst=some d->d∈(rw i).w) (h:OpS P S ops i (loc ((rw i).r++(rw i).w) σ) outs)
   (hk:∀ k K,(k,K)∈outs->k∈(rw i).w) (hb:okBx S outs=true) (t:Tr P S ops rw l (ups σ outs) τ):Tr P S ops rw (i::l) σ τ
theorem loc_apart {x y:RW} (h:x.apart y=true) {outs:List (Nat×Ky)} (hk:∀ k K,(k,K)∈outs->k∈x.w) (σ:St):loc (y.r++y.w) (ups σ outs)=loc (y.r++y.w) σ:=by
 funext k
 unfold loc
 split
 ·rename_i hm
  refine ups_eq _ _ _ (fun K hK=>?_)
  have:=RW.apart_r h (hk k K hK)
  rcases List.mem_append.1 hm with h1 | h1
  ·exact this.1 h1
  ·exact this.2 h1
 ·rfl
theorem ups_comm {x y:RW} (h:x.apart y=true) {o1 o2:List (Nat×Ky)} (h1:∀ k K,(k,K)∈o1->k∈x.w) (h2:∀ k K,(k,K)∈o2->k∈y.w) (σ:St):ups (ups σ o1) o2=ups (ups σ o2) o1:=by
 funext k
 by_cases hk:∃ K,(k,K)∈o2
 ·obtain ⟨K,hK⟩:=hk
  have hn:∀ K,(k,K) ∉ o1:=fun K' hK'=>(RW.apart_r h (h1 k K' hK')).2 (h2 k K hK)
  rw [ups_eq o1 _ k hn]
  exact ups_same _ _ _ _ (.inl ⟨K,hK⟩)
 ·have hn:∀ K,(k,K) ∉ o2:=fun K hK=>hk ⟨K,hK⟩
  rw [ups_eq o2 _ k hn]
  exact (ups_same _ _ _ _ (.inr (ups_eq o2 _ k hn))).symm
theorem Tr.swap {P:Program} {S:List Nat} {ops:Array Oper} {rw:Nat->RW} {i j:Nat} {l:List Nat} {σ τ:St} (h:Tr P S ops rw (i::j::l) σ τ) (hap:(rw i).apart (rw j)=true):Tr P S ops rw (j::i::l) σ τ:=by
 cases h with
 | cons o1 d1 s1 k1 b1 t1 =>
  cases t1 with
  | cons o2 d2 s2 k2 b2 t2 =>
   rw [loc_apart hap k1] at s2
   refine .cons o2 d2 s2 k2 b2 (.cons o1 d1 ?_ k1 b1 ?_)
   ·rw [loc_apart (RW.apart_symm hap) k2];exact s1
   ·rw [<- ups_comm hap k1 k2];exact t2
theorem Tr.front {P:Program} {S:List Nat} {ops:Array Oper} {rw:Nat->RW} {j:Nat} {l2:List Nat} {τ:St}:∀ {l1:List Nat} {σ:St},Tr P S ops rw (l1++j::l2) σ τ->(∀ i∈l1,(rw i).apart (rw j)=true)->Tr P S ops rw (j::(l1++l2)) σ τ:=by
 intro l1
 induction l1 with
 | nil=>intro σ h _;exact h
 | cons i l1 ih =>
  intro σ h hap
  cases h with
  | cons o1 d1 s1 k1 b1 t1 =>
   have:=ih t1 (fun i' hi'=>hap i' (List.mem_cons_of_mem _ hi'))
   exact (Tr.cons o1 d1 s1 k1 b1 this).swap (hap i (List.mem_cons_self ..))
def waits (ops:Array Oper) (anc:Nat->List Nat):Prop :=
 ∀ i o,ops[i]?=some o->∀ j∈anc i,∃ e∈o.after,Region.binds .any e=true/\(e.on=j∨j∈anc e.on)
def Closed (ops:Array Oper) (listed:Array Bool):Prop:=∀ i o,ops[i]?=some o->listed.getD i false=true->∀ e∈o.after,Region.binds .any e=true->listed.getD e.on false=true
theorem closed_anc {ops:Array Oper} {anc:Nat->List Nat} (ha:waits ops anc) (hb:∀ (i:Nat) o,ops[i]?=some o->∀ e∈o.after,Region.binds .any e=true->e.on<i) {listed:Array Bool} (hc:Closed ops listed) (hsz:listed.size=ops.size) :
  ∀ i,listed.getD i false=true->∀ j∈anc i,listed.getD j false=true:=by
 intro i
 induction i using Nat.strongRecOn with
 | _ i ih =>
  intro hi j hj
  have hlt:i<ops.size:=by
   rcases Nat.lt_or_ge i ops.size with h | h
   ·exact h
   ·simp [Array.getElem?_eq_none (hsz▸h)] at hi
  obtain ⟨e,he,hbi,hor⟩:=ha i _ (Array.getElem?_eq_getElem hlt) j hj
  have hl:=hc i _ (Array.getElem?_eq_getElem hlt) hi e he hbi
  rcases hor with rfl | h1
  ·exact hl
  ·exact ih e.on (hb i _ (Array.getElem?_eq_getElem hlt) e he hbi) hl j h1
def Indep (n:Nat) (rw:Nat->RW) (anc:Nat->List Nat):Prop:=∀ i<n,∀ j<i,(rw j).apart (rw i)=true∨j∈anc i
def At (cx:Cx) (σ:St) (a:Act) (w:World):Prop:=Rel cx σ a w/\∀ t∈cx.pn,a.tmps.getD t undef=cx.args.getD t undef
theorem getD_put_far (a:Act) (d:Option Nat) (v:Value) (t:Nat) (h:d≠some t):(a.put d v).tmps.getD t undef=a.tmps.getD t undef:=by
 cases d with
 | none=>rfl
 | some d =>
  have:d≠t:=fun e=>h (by rw [e])
  simp [Act.put,Array.getD_eq_getD_getElem?,Array.getElem?_setIfInBounds_ne this]
theorem wpOp_keep {P:Program} {ops:Array Oper} {Q:Exit->Act->World->Prop} {i:Nat} {K:Act->World->Prop} {a:Act} {w:World} (h:wpOp P ops Q i K a w) :
  wpOp P ops Q i (fun a' w'=>K a' w'/\∀ t,(∀ o,ops[i]?=some o->o.dst≠some t)->a'.tmps.getD t undef=a.tmps.getD t undef) a w:=by
 unfold wpOp at *
 split
 ·rename_i h1
  simp only [h1] at h
  exact ⟨h,fun _ _=>rfl⟩
 ·rename_i o ho
  simp only [ho] at h
  have far:∀ (v:Value) t,(∀ o',ops[i]?=some o'->o'.dst≠some t)->(a.put o.dst v).tmps.getD t undef=a.tmps.getD t undef:=fun v t ht=>getD_put_far a o.dst v t (ht o ho)
  split
  ·rename_i hw
   simp only [hw,if_true] at h
   refine h.imp (fun h1=>?_) id
   clear h
   unfold Oper.wp at h1 ⊢
   generalize (execOp a.eval o).run P w=r at h1 ⊢
   cases r with
   | ok n w' =>
    cases n<;>simp only [Oper.upon] at h1 ⊢
    case value v=>exact ⟨h1,fun t ht=>far v t ht⟩
    case skip=>exact ⟨h1,fun t ht=>far _ t ht⟩
    case defer d=>exact ⟨h1,fun t ht=>getD_put_far _ o.dst _ t (ht o ho)⟩
    case enter f args =>
     refine Calls.mono h1 fun e w'' he=>?_
     cases e with
     | returned u=>exact ⟨he,fun t ht=>far u t ht⟩
     | panicked c=>exact he
     | outgrown=>exact he
    case row row args=>exact Rows.mono h1 fun u w'' he=>⟨he,fun t ht=>far u t ht⟩
   | halt x w'=>cases x<;>simp only [Oper.upon] at h1 ⊢<;>exact h1
  ·rename_i hw
   simp only [hw] at h
   exact ⟨h,fun t ht=>far _ t ht⟩
theorem tr_any {P:Program} {S:List Nat} {ops:Array Oper} {rw:Nat->RW} {anc:Nat->List Nat} (ha:waits ops anc) (hb:∀ (i:Nat) o,ops[i]?=some o->∀ e∈o.after,Region.binds .any e=true->e.on<i) (hin:Indep ops.size rw anc)
  {cx:Cx} (hP:cx.P=P) (hn:∀ (i:Nat) o d,ops[i]?=some o->o.dst=some d->d<cx.n/\d ∉ cx.pn) {Q:Exit->Act->World->Prop} {τ:St} (hQ:∀ a w,At cx τ a w->Q .normal a w) :
  ∀ (fuel:Nat) (listed:Array Bool) (l:List Nat) (σ:St) (a:Act) (w:World),l.length=fuel->listed.size=ops.size->(∀ i,i∈l↔i<ops.size/\listed.getD i false=false)->l.Pairwise (·<·)->Closed ops listed ->
   Tr P S ops rw l σ τ->Bxs S σ->At cx σ a w->wpAny P .any ops Q fuel listed a w:=by
 intro fuel
 have mem1:∀ {listed:Array Bool} {l:List Nat},listed.size=ops.size->(∀ i,i∈l↔i<ops.size/\listed.getD i false=false)->∀ {i},i∈Region.ready .any ops listed->i∈l/\∃ o,ops[i]?=some o/\∀ e∈o.after,Region.binds .any e=true->listed.getD e.on false=true:=by
  intro listed l hsz hl i hi
  obtain ⟨h1,o,ho,h2⟩:=mem_ready.1 hi
  have hlt:=(Array.getElem?_eq_some_iff.1 ho).1
  refine ⟨(hl i).2 ⟨hlt,?_⟩,o,ho,h2⟩
  rw [Array.getD_eq_getD_getElem?,Array.getElem?_eq_getElem (hsz▸hlt)] at h1 ⊢
  simpa using h1
 induction fuel with
 | zero =>
  intro listed l σ a w hf hsz hl hp hc ht hbx hr
  have hnil:l=[]:=List.length_eq_zero_iff.1 hf
  subst hnil
  cases ht
  refine ⟨?_,hQ a w hr⟩
  cases hrd:Region.ready .any ops listed with
  | nil=>rfl
  | cons i r =>
   have:=(mem1 hsz hl (i:=i) (by rw [hrd];exact List.mem_cons_self ..)).1
   simp at this
 | succ fuel ih =>
  intro listed l σ a w hf hsz hl hp hc ht hbx hr
  refine ⟨fun hnil=>?_,fun i hi=>?_⟩
  ·
   cases l with
   | nil=>simp at hf
   | cons i r =>
    obtain ⟨hlt,hun⟩:=(hl i).1 (List.mem_cons_self ..)
    have:i∈Region.ready .any ops listed:=by
     refine mem_ready.2 ⟨?_,_,Array.getElem?_eq_getElem hlt,fun e he hbi=>?_⟩
     ·rw [Array.getD_eq_getD_getElem?,Array.getElem?_eq_getElem (hsz▸hlt)] at hun ⊢
      simpa using hun
     ·have hlt':=hb i _ (Array.getElem?_eq_getElem hlt) e he hbi
      cases hl':listed.getD e.on false with
      | true=>rfl
      | false =>
       have hm:=(hl e.on).2 ⟨by omega,hl'⟩
       rcases List.mem_cons.1 hm with h1 | h1
       ·omega
       ·have:=List.rel_of_pairwise_cons hp h1
        omega
    rw [hnil] at this
    simp at this
  ·obtain ⟨hm,o,ho,hall⟩:=mem1 hsz hl hi
   obtain ⟨l1,l2,rfl⟩:=List.append_of_mem hm
   have hpa:∀ j∈l1,j<i:=fun j hj=>by
    have:=List.pairwise_append.1 hp
    exact this.2.2 j hj i (List.mem_cons_self ..)
   have hilt:=(Array.getElem?_eq_some_iff.1 ho).1
   have hfr:=ht.front (fun j hj=>by
    rcases hin i hilt j (hpa j hj) with h1 | h1
    ·exact h1
    ·
     exfalso
     have hjun:=((hl j).1 (List.mem_append_left _ hj)).2
     obtain ⟨e,he,hbi,hor⟩:=ha i o ho j h1
     have hel:=hall e he hbi
     rcases hor with rfl | h2
     ·rw [hel] at hjun;cases hjun
     ·rw [closed_anc ha hb hc hsz e.on hel j h2] at hjun;cases hjun)
   cases hfr with
   | cons outs hd hs hk hb t =>
    have hop:=hs σ hbx (loc_sub _ _) (fun o' d h1 h2=>(loc_in (List.mem_append_right _ (hd o' d h1 h2))).symm) cx a w hP hr.1 (fun o' d h1 h2=>(hn i o' d h1 h2).1) _ Q (fun a' w' hr'=>hr')
    refine wpOp_mono (fun a' w' ⟨hr0,hk0⟩=>?_) (wpOp_keep hop)
    have hr':At cx (ups σ outs) a' w':=⟨hr0,fun t ht=>(hk0 t (fun o' ho' hd'=>(hn i o' t ho' hd').2 ht)).trans (hr.2 t ht)⟩
    have hset:∀ k,(listed.setIfInBounds i true).getD k false=if k=i then true else listed.getD k false:=fun k=>by
     by_cases hki:k=i
     ·subst hki
      simp [Array.getD_eq_getD_getElem?,Array.getElem?_setIfInBounds,hsz,hilt]
     ·simp [Array.getD_eq_getD_getElem?,Array.getElem?_setIfInBounds_ne (Ne.symm hki),hki]
    have hnotin:i ∉ l1++l2:=fun hmem=>by
     have h1:=List.pairwise_append.1 hp
     rcases List.mem_append.1 hmem with h2 | h2
     ·exact Nat.lt_irrefl _ (h1.2.2 i h2 i (List.mem_cons_self ..))
     ·exact Nat.lt_irrefl _ (List.rel_of_pairwise_cons h1.2.1 h2)
    refine ih _ (l1++l2) _ a' w' (by simp at hf ⊢;omega) (by simpa using hsz) (fun k=>?_) ?_ (fun k o' hk' hlk e he hbi=>?_) t (bxs_ups _ hbx hb) hr'
    ·rw [hset k]
     by_cases hki:k=i
     ·subst hki;simp only [if_true];exact ⟨fun h=>absurd h hnotin,fun h=>by cases h.2⟩
     ·simp only [hki,if_false]
      rw [<- hl k]
      simp [hki]
    ·have h1:=List.pairwise_append.1 hp
     refine List.pairwise_append.2 ⟨h1.1,(List.pairwise_cons.1 h1.2.1).2,fun x hx y hy=>h1.2.2 x hx y (List.mem_cons_of_mem _ hy)⟩
    ·rw [hset] at hlk ⊢
     by_cases hek:e.on=i
     ·simp [hek]
     ·simp only [hek,if_false]
      by_cases hki:k=i
      ·subst hki
       rw [ho] at hk';cases hk'
       exact hall e he hbi
      ·simp only [hki,if_false] at hlk
       exact hc k o' hk' hlk e he hbi
theorem Rel.drew {cx:Cx} {σ:St} {a:Act} {w:World} (h:Rel cx σ a w):Rel cx σ a { w with drawn:=w.drawn+1 }:=by
 obtain ⟨I,U,B,F,hr⟩:=h
 refine ⟨I,U,B,F,hr.step (fun _=>False) hr.size hr.defers (fun _ _=>rfl) (fun _ _=>rfl) (fun _ _=>⟨rfl,rfl,rfl⟩) (fun _ h=>h) (fun _ h=>.inl h) (fun _ _=>rfl) (fun _ _ h=>h.elim) (fun _ _ h=>h.elim) hr.dis hr.own (fun _ _ h=>h.elim) hr.ro ?_⟩
 exact hr.fr.trans (Fr.drew (fun _ _=>False)) (fun _ _ h=>h.elim)
theorem At.drew {cx:Cx} {σ:St} {a:Act} {w:World} (h:At cx σ a w):At cx σ a { w with drawn:=w.drawn+1 }:=⟨h.1.drew,h.2⟩
def rwAt (l:List RW) (i:Nat):RW:=l.getD i ⟨[],[]⟩
def okDst (n:Nat) (pn:List Nat) (ops:List Oper):Bool:=ops.all fun o=>match o.dst with
 | some d=>d<n&&!pn.contains d
 | none=>true
inductive TrP (P:Program) (ops:Array Oper):List Nat->St->St->Prop where
 | nil (σ:St):TrP P ops [] σ σ
 | cons {i:Nat} {l:List Nat} {σ τ:St} (outs:List (Nat×Ky)) (h:OpS P [] ops i σ outs) (t:TrP P ops l (ups σ outs) τ):TrP P ops (i::l) σ τ
theorem trp_ops {P:Program} {ops:Array Oper} {cx:Cx} (hP:cx.P=P) (hn:∀ (i:Nat) o d,ops[i]?=some o->o.dst=some d->d<cx.n/\d ∉ cx.pn) {Q:Exit->Act->World->Prop} {τ:St} (hQ:∀ a w,At cx τ a w->Q .normal a w) :
  ∀ (l:List Nat) (σ:St) (a:Act) (w:World),TrP P ops l σ τ->At cx σ a w->wpOps P ops Q l a w:=by
 intro l
 induction l with
 | nil=>intro σ a w ht hr;cases ht;exact hQ a w hr
 | cons i l ih =>
  intro σ a w ht hr
  cases ht with
  | cons outs h t =>
   rw [wpOps_cons]
   have hop:=h σ (bxs_nil σ) (Sub.refl σ) (fun _ _ _ _=>rfl) cx a w hP hr.1 (fun o d h1 h2=>(hn i o d h1 h2).1) _ Q (fun a' w' hr'=>hr')
   refine wpOp_mono (fun a' w' ⟨hr0,hk0⟩=>ih _ a' w' t ⟨hr0,fun t ht=>?_⟩) (wpOp_keep hop)
   exact (hk0 t (fun o' ho' hd'=>(hn i o' t ho' hd').2 ht)).trans (hr.2 t ht)
theorem region_plain {P:Program} {id:Nat} {l:List Oper} {cx:Cx} {σ τ:St} {a:Act} {w:World} {Q:Exit->Act->World->Prop} (hP:cx.P=P) (hok:okDst cx.n cx.pn l=true)
  (ht:TrP P l.toArray (List.range l.length) σ τ) (hr:At cx σ a w) (hQ:∀ a w,At cx τ a w->Q .normal a w):(Code.region id l.toArray false).wp P Q a w:=by
 refine wp_region ?_
 rw [List.size_toArray]
 refine trp_ops hP (fun i o d ho hd=>?_) hQ _ σ a w ht hr
 have:=List.all_eq_true.1 hok o (List.mem_of_getElem? (by simpa using ho))
 simpa [hd] using this
end Go.Proofs.AI
namespace Go.Proofs.AI
open Go.RowKit
set_option linter.unusedVariables false
set_option linter.unusedSimpArgs false
section
variable {σ σ':St} {T:Tab}
theorem sub_one1 (h:Sub σ σ') {x:Operand} {s:SC} (hs:one1 σ x=some s):one1 σ' x=some s:=by
 cases x with
 | tmp t =>
  simp only [one1] at hs ⊢
  cases hk:σ t with
  | none=>rw [hk] at hs;cases hs
  | some K=>rw [hk] at hs;rw [h t K hk];exact hs
 | _=>exact hs
theorem sub_agg1 (h:Sub σ σ') {x:Operand} {s:List SC} (hs:agg1 σ x=some s):agg1 σ' x=some s:=by
 cases x with
 | tmp t =>
  simp only [agg1] at hs ⊢
  cases hk:σ t with
  | none=>rw [hk] at hs;cases hs
  | some K=>rw [hk] at hs;rw [h t K hk];exact hs
 | const v=>cases v<;>exact hs
 | _=>exact hs
theorem sub_known (h:Sub σ σ') {x:Operand} {r:Res} (hs:arg1 σ x=some r):one1 σ' x=one1 σ x/\agg1 σ' x=agg1 σ x:=by
 cases x with
 | tmp t =>
  simp only [arg1,one1,agg1] at hs ⊢
  cases hk:σ t with
  | none=>rw [hk] at hs;simp at hs
  | some K=>rw [h t K hk];exact ⟨rfl,rfl⟩
 | const v=>cases v<;>exact ⟨rfl,rfl⟩
 | _=>exact ⟨rfl,rfl⟩
theorem sub_arg1 (h:Sub σ σ') {x:Operand} {s:Res} (hs:arg1 σ x=some s):arg1 σ' x=some s:=by
 obtain ⟨h1,h2⟩:=sub_known h hs
 unfold arg1 at hs ⊢
 rw [h1,h2];exact hs
theorem sub_oneC (h:Sub σ σ') {x:Operand} {s:CV} (hs:oneC σ x=some s):oneC σ' x=some s:=by
 unfold oneC at hs ⊢
 cases h1:one1 σ x with
 | none=>rw [h1] at hs;cases hs
 | some z=>rw [h1] at hs;rw [sub_one1 h h1];exact hs
theorem sub_oneC' (h:Sub σ σ') {x:Operand} {r:Res} (hs:arg1 σ x=some r):oneC σ' x=oneC σ x:=by
 unfold oneC
 rw [(sub_known h hs).1]
theorem sub_optC (h:Sub σ σ') {x:Option Operand} {s:Option Int} (hs:optC σ x=some s):optC σ' x=some s:=by
 cases x with
 | none=>exact hs
 | some x =>
  simp only [optC] at hs ⊢
  cases h1:oneC σ x with
  | none=>rw [h1] at hs;cases hs
  | some z=>rw [h1] at hs;rw [sub_oneC h h1];exact hs
theorem sub_rowsAt (h:Sub σ σ') {s:SC} {z:TypeId×Rows CV} (hs:rowsAt σ s=some z):rowsAt σ' s=some z:=by
 unfold rowsAt at hs ⊢
 split at hs
 ·exact hs
 ·rename_i e k o p n
  cases hk:σ k with
  | none=>rw [hk] at hs;cases hs
  | some K=>rw [hk] at hs;simp only [h k K hk];exact hs
 ·cases hs
theorem sub_vIndex (h:Sub σ σ') {t:TypeId} {s:SC} {y:CV} {z:Prop×SC} (hs:vIndex T σ t s y=some z):vIndex T σ' t s y=some z:=by
 cases y with
 | n k ix =>
  simp only [vIndex] at hs ⊢
  split at hs<;>try (cases hs;done)
  split at hs<;>try (cases hs;done)
  cases s with
  | c x=>cases x<;>exact hs
  | v e' k o p n r =>
   cases r with
   | some _=>exact hs
   | none =>
    simp only at hs ⊢
    cases hr:rowsAt σ (.v e' k o p n none) with
    | none=>rw [hr] at hs;cases hs
    | some z=>rw [hr] at hs;rw [sub_rowsAt h hr];exact hs
  | _=>exact hs
 | _=>simp [vIndex] at hs
theorem sub_vLoad (h:Sub σ σ') {t:TypeId} {s:SC} {z:Prop×Res} (hs:vLoad T σ t s=some z):vLoad T σ' t s=some z:=by
 unfold vLoad at hs ⊢
 cases hT:T t with
 | none=>rw [hT] at hs;cases hs
 | some i =>
  simp only [hT] at hs ⊢
  cases s with
  | pr k o n =>
   simp only at hs ⊢
   cases hk:σ k with
   | none=>rw [hk] at hs;cases hs
   | some K=>rw [hk] at hs;simp only [h k K hk];exact hs
  | p e k o p n r j =>
   simp only at hs ⊢
   cases hk:σ k with
   | none=>rw [hk] at hs;cases hs
   | some K=>rw [hk] at hs;simp only [h k K hk];exact hs
  | _=>exact hs
theorem sub_vLen (h:Sub σ σ') {t:TypeId} {s:SC} {z:CV} (hs:vLen T σ t s=some z):vLen T σ' t s=some z:=by
 unfold vLen at hs ⊢
 split at hs
 ·exact hs
 ·exact hs
 ·exact hs
 ·rename_i h1 h2
  cases hr:rowsAt σ s with
  | none=>rw [hr] at hs;cases hs
  | some z=>rw [hr] at hs;simp only [sub_rowsAt h hr];exact hs
theorem sub_vSlice (h:Sub σ σ') {t:TypeId} {s:SC} {l u:Option Int} {z:Prop×SC} (hs:vSlice T σ t s l u=some z):vSlice T σ' t s l u=some z:=by
 unfold vSlice at hs ⊢
 split at hs
 ·exact hs
 ·exact hs
 ·rename_i e k o p n
  cases hr:rowsAt σ (.v e k o p n none) with
  | none=>rw [hr] at hs;cases hs
  | some z=>rw [hr] at hs;simp only [sub_rowsAt h hr];exact hs
 ·cases hs
theorem sub_vEq (h:Sub σ σ') {t:TypeId} {neg:Bool} {r s:Res} {z:Prop×CV} (hs:vEq T σ neg t r s=some z):vEq T σ' neg t r s=some z:=by
 unfold vEq at hs ⊢
 split at hs
 ·rename_i i hi
  cases hk:i.k<;>simp only [hk] at hs ⊢<;>try (first | exact hs | cases hs)
  ·split at hs
   ·split at hs
    ·exact hs
    ·rename_i s hne
     cases hr:rowsAt σ s with
     | none=>rw [hr] at hs;cases hs
     | some z=>rw [hr] at hs;simp only [sub_rowsAt h hr];exact hs
    ·cases hs
   ·cases hs
 ·cases hs
theorem sub_capsOf (h:Sub σ σ'):∀ {cs:List Operand} {ks:List (Nat×Nat)},capsOf σ cs=some ks->capsOf σ' cs=some ks
 | [],ks,hs=>hs
 | x::r,ks,hs=>by
  simp only [capsOf] at hs ⊢
  split at hs
  ·rename_i k n hx
   split at hs
   ·rename_i l hl
    simp only [sub_one1 h hx,sub_capsOf h hl];exact hs
   ·cases hs
  ·cases hs
theorem sub_rd1 (h:Sub σ σ') {op:Op} {z:Prop×Res} (hs:rd1 T σ op=some z):rd1 T σ' op=some z:=by
 unfold rd1 at hs
 split at hs
 ·rename_i x
  obtain ⟨r,h1,h2⟩:=Option.map_eq_some_iff.1 hs
  simp [rd1,sub_arg1 h h1,h2]
 ·rename_i c x y
  split at hs
  ·rename_i hc
   obtain ⟨r,h1,h2⟩:=Option.map_eq_some_iff.1 hs
   simp [rd1,sub_oneC h hc,sub_arg1 h h1,h2]
  ·rename_i hc
   obtain ⟨r,h1,h2⟩:=Option.map_eq_some_iff.1 hs
   simp [rd1,sub_oneC h hc,sub_arg1 h h1,h2]
  ·cases hs
 ·rename_i x
  split at hs
  ·rename_i s h1
   simp only [rd1,sub_one1 h h1];exact hs
  ·cases hs
 ·rename_i t x
  split at hs
  ·rename_i y h1
   simp only [rd1,sub_oneC h h1];exact hs
  ·cases hs
 ·rename_i s d x
  split at hs
  ·rename_i y h1
   simp only [rd1,sub_oneC h h1];exact hs
  ·cases hs
 ·rename_i t x y u
  split at hs
  ·rename_i p q h1 h2
   simp only [rd1,sub_oneC h h1,sub_oneC h h2]
   split at hs
   ·rename_i h3;exact hs
   ·rename_i h3
    split at hs
    ·rename_i r s h4 h5
     obtain ⟨b,h6,h7⟩:=Option.map_eq_some_iff.1 hs
     simp [sub_arg1 h h4,sub_arg1 h h5,sub_vEq h h6,h7]
    ·cases hs
  ·rename_i h0
   split at hs
   ·rename_i r s h4 h5
    obtain ⟨b,h6,h7⟩:=Option.map_eq_some_iff.1 hs
    simp only [rd1,sub_oneC' h h4,sub_oneC' h h5]
    cases h8:oneC σ x with
    | none=>simp [sub_arg1 h h4,sub_arg1 h h5,sub_vEq h h6,h7]
    | some p=>cases h9:oneC σ y with
     | none=>simp [sub_arg1 h h4,sub_arg1 h h5,sub_vEq h h6,h7]
     | some q=>exact absurd h9 (h0 p q h8)
   ·cases hs
 ·rename_i t x y u
  split at hs
  ·rename_i p q h1 h2
   simp only [rd1,sub_oneC h h1,sub_oneC h h2]
   split at hs
   ·rename_i h3;exact hs
   ·rename_i h3
    split at hs
    ·rename_i r s h4 h5
     obtain ⟨b,h6,h7⟩:=Option.map_eq_some_iff.1 hs
     simp [sub_arg1 h h4,sub_arg1 h h5,sub_vEq h h6,h7]
    ·cases hs
  ·rename_i h0
   split at hs
   ·rename_i r s h4 h5
    obtain ⟨b,h6,h7⟩:=Option.map_eq_some_iff.1 hs
    simp only [rd1,sub_oneC' h h4,sub_oneC' h h5]
    cases h8:oneC σ x with
    | none=>simp [sub_arg1 h h4,sub_arg1 h h5,sub_vEq h h6,h7]
    | some p=>cases h9:oneC σ y with
     | none=>simp [sub_arg1 h h4,sub_arg1 h h5,sub_vEq h h6,h7]
     | some q=>exact absurd h9 (h0 p q h8)
   ·cases hs
 ·rename_i op t x y u n1 n2
  split at hs
  ·rename_i p q h1 h2
   cases op<;>first | exact absurd rfl n1 | exact absurd rfl n2 | (simp only [rd1,sub_oneC h h1,sub_oneC h h2];exact hs)
  ·cases hs
 ·rename_i t x
  split at hs
  ·rename_i s h1;simp only [rd1,sub_one1 h h1];exact sub_vLoad h hs
  ·cases hs
 ·rename_i t x f
  split at hs
  ·rename_i s h1;simp only [rd1,sub_one1 h h1];exact hs
  ·cases hs
 ·rename_i t x f
  split at hs
  ·rename_i s h1;simp only [rd1,sub_agg1 h h1];exact hs
  ·cases hs
 ·rename_i t x i
  split at hs
  ·rename_i s j h1 h2
   obtain ⟨b,h6,h7⟩:=Option.map_eq_some_iff.1 hs
   simp [rd1,sub_one1 h h1,sub_oneC h h2,sub_vIndex h h6,h7]
  ·cases hs
 ·rename_i t x i
  split at hs
  ·rename_i s j h1 h2;simp only [rd1,sub_oneC h h1,sub_oneC h h2];exact hs
  ·cases hs
 ·rename_i t x lo hi
  split at hs
  ·rename_i s l u h1 h2 h3
   obtain ⟨b,h6,h7⟩:=Option.map_eq_some_iff.1 hs
   simp [rd1,sub_one1 h h1,sub_optC h h2,sub_optC h h3,sub_vSlice h h6,h7]
  ·cases hs
 ·rename_i x t
  split at hs
  ·rename_i s h1
   obtain ⟨b,h6,h7⟩:=Option.map_eq_some_iff.1 hs
   simp [rd1,sub_one1 h h1,sub_vLen h h6,h7]
  ·cases hs
 ·rename_i x y t
  split at hs
  ·rename_i k p k' q h1 h2;simp only [rd1,sub_oneC h h1,sub_oneC h h2];exact hs
  ·cases hs
 ·rename_i x y t
  split at hs
  ·rename_i k p k' q h1 h2;simp only [rd1,sub_oneC h h1,sub_oneC h h2];exact hs
  ·cases hs
 ·rename_i f cs
  obtain ⟨ks,h6,h7⟩:=Option.map_eq_some_iff.1 hs
  simp [rd1,sub_capsOf h h6,h7]
 ·cases hs
end
end Go.Proofs.AI
namespace Go.Proofs.AI
open Go.RowKit
set_option linter.unusedVariables false
set_option linter.unusedSimpArgs false
section
variable {σ σ':St} {T:Tab}
theorem sub_up (h:Sub σ σ') (d:Nat) (K:Ky):Sub (up σ d K) (up σ' d K):=fun k K' hk=>by
 unfold up at hk ⊢
 split
 ·rename_i h1;rw [if_pos h1] at hk;exact hk
 ·rename_i h1;rw [if_neg h1] at hk;exact h k K' hk
theorem sub_ups (out:List (Nat×Ky)):∀ {σ σ':St},Sub σ σ'->Sub (ups σ out) (ups σ' out):=by
 induction out with
 | nil=>intro σ σ' h;exact h
 | cons x r ih=>intro σ σ' h;obtain ⟨d,K⟩:=x;exact ih (sub_up h d K)
theorem logAt_ups {out:List (Nat×Ky)} {d:Nat} (h:σ' d=σ d):logAt (ups σ' out) d=logAt (ups σ out) d:=by
 unfold logAt
 rw [ups_same out σ' σ d (.inr h)]
theorem sub_eat (h:Sub σ σ') {x:Operand} {e:Ate} (hs:eat σ x=some e):eat σ' x=some e:=by
 cases x with
 | tmp t =>
  simp only [eat] at hs ⊢
  cases hk:σ t with
  | none=>rw [hk] at hs;cases hs
  | some K=>rw [hk] at hs;rw [h t K hk];exact hs
 | const v=>cases v<;>exact hs
 | _=>exact hs
theorem sub_steal (h:Sub σ σ') {x:Operand} {e:Ate} (hs:steal σ x=some e):steal σ' x=some e:=by
 unfold steal at hs ⊢
 split at hs
 ·rename_i e' k o n out heat
  rw [sub_eat h heat]
  simp only
  cases hk:σ k with
  | none=>rw [hk] at hs;cases hs
  | some K=>rw [hk] at hs;simp only [h k K hk];exact hs
 ·rename_i hno
  rw [sub_eat h hs]
  split
  ·rename_i e' k o n out heq
   exact absurd (hs.trans heq) (hno _ _ _ _ _)
  ·rfl
theorem sub_eats:∀ {ps:List (Nat×Operand)} {σ σ':St} {z:List Part×List (Nat×Ky)},Sub σ σ'->eats σ ps=some z->eats σ' ps=some z:=by
 intro ps
 induction ps with
 | nil=>intro σ σ' z h hs;exact hs
 | cons p r ih =>
  intro σ σ' z h hs
  obtain ⟨i,x⟩:=p
  simp only [eats] at hs ⊢
  split at hs
  ·rename_i e he
   simp only [sub_eat h he]
   split at hs
   ·rename_i l out hr
    simp only [ih (sub_ups e.out h) hr];exact hs
   ·cases hs
  ·cases hs
theorem sub_vMore (h:Sub σ σ') {e:TypeId} {x:Operand} {m:More} (hs:vMore σ e x=some m):vMore σ' e x=some m:=by
 unfold vMore at hs ⊢
 split at hs
 ·rename_i heat;simp only [sub_eat h heat];exact hs
 ·rename_i heat;simp only [sub_eat h heat];exact hs
 ·rename_i heat;simp only [sub_eat h heat];exact hs
 ·rename_i e' k o p n r out heat
  simp only [sub_eat h heat]
  split at hs
  ·rename_i he
   rw [if_pos he]
   split at hs
   ·rename_i e1 es hr
    simp only [sub_rowsAt h hr];exact hs
   ·cases hs
  ·cases hs
 ·cases hs
theorem sub_vBase (h:Sub σ σ') {e:TypeId} {x:Operand} {m:Base} (hs:vBase σ e x=some m):vBase σ' e x=some m:=by
 unfold vBase at hs ⊢
 split at hs
 ·rename_i h1;simp only [sub_one1 h h1];exact hs
 ·rename_i e' k o p n h1
  simp only [sub_one1 h h1]
  split at hs
  ·rename_i he
   rw [if_pos he]
   cases hk:σ k with
   | none=>rw [hk] at hs;cases hs
   | some K=>rw [hk] at hs;simp only [h k K hk];exact hs
  ·cases hs
 ·cases hs
theorem sub_vStore (h:Sub σ σ') {t:TypeId} {p x:Operand} {z:Prop×List (Nat×Ky)} (hs:vStore T σ t p x=some z):vStore T σ' t p x=some z:=by
 unfold vStore at hs ⊢
 split at hs
 ·rename_i i hi
  split at hs
  ·rename_i e heat
   simp only [sub_eat h heat]
   have h':=sub_ups e.out h
   split at hs
   ·rename_i hl
    rw [if_pos hl]
    split at hs
    ·rename_i k o n h1
     simp only [sub_one1 h' h1]
     cases hk:ups σ e.out k with
     | none=>rw [hk] at hs;cases hs
     | some K=>rw [hk] at hs;simp only [h' k K hk];exact hs
    ·rename_i e' k o q n r j h1
     simp only [sub_one1 h' h1]
     cases hk:ups σ e.out k with
     | none=>rw [hk] at hs;cases hs
     | some K=>rw [hk] at hs;simp only [h' k K hk];exact hs
    ·cases hs
   ·cases hs
  ·cases hs
 ·cases hs
end
def offB:Option Ky->Bool
 | some ⟨.tup [],_,_⟩=>true
 | _=>false
theorem offB_inv {q:Option Ky} (h:offB q=true):∃ c l,q=some ⟨.tup [],c,l⟩:=by
 unfold offB at h
 split at h
 ·exact ⟨_,_,rfl⟩
 ·cases h
inductive Want (ops:Array Oper) (σ:St):Option (Nat×Bool)->Bool->Prop where
 | free:Want ops σ none true
 | yes {g t:Nat} {og:Oper} {b:Bool} (h1:ops[g]?=some og) (h2:og.dst=some t) (h3:oneC σ (.tmp t)=some (.b b)):Want ops σ (some (g,b)) true
 | no {g t:Nat} {og:Oper} {b b':Bool} (h1:ops[g]?=some og) (h2:og.dst=some t) (h3:oneC σ (.tmp t)=some (.b b')) (hne:b'≠b):Want ops σ (some (g,b)) false
 | off {g t:Nat} {og:Oper} {b:Bool} (h1:ops[g]?=some og) (h2:og.dst=some t) (h3:offB (σ t)=true):Want ops σ (some (g,b)) false
theorem Want.sub {ops:Array Oper} {σ σ':St} (h:Sub σ σ') {g:Option (Nat×Bool)} {b:Bool} (hw:Want ops σ g b):Want ops σ' g b:=by
 cases hw with
 | free=>exact .free
 | yes h1 h2 h3=>exact .yes h1 h2 (sub_oneC h h3)
 | no h1 h2 h3 h4=>exact .no h1 h2 (sub_oneC h h3) h4
 | off h1 h2 h3 =>
  obtain ⟨c,l,hk⟩:=offB_inv h3
  exact .off h1 h2 (by rw [h _ _ hk];rfl)
theorem Want.wanted {ops:Array Oper} {σ:St} {o:Oper} {b:Bool} {cx:Cx} {a:Act} {w:World} (hw:Want ops σ o.guard b) (h:Rel cx σ a w):Region.wanted o (yielded ops a.tmps)=b:=by
 obtain ⟨I,U,B,F,hr⟩:=h
 have key:∀ (t:Nat) (b:Bool),oneC σ (.tmp t)=some (.b b)->a.tmps[t]?=some (.bool b):=by
  intro t b h3
  have hv:=rep_b (oneC_rep hr h3)
  have hlt:t<a.tmps.size:=by
   unfold oneC at h3
   split at h3
   ·rename_i y hy
    simp only [one1] at hy
    cases hk:σ t with
    | none=>rw [hk] at hy;cases hy
    | some K=>rw [hr.size];exact (hr.key t K hk).1
   ·cases h3
  simp only [Act.eval,Array.getD_eq_getD_getElem?,Array.getElem?_eq_getElem hlt,Option.getD_some] at hv
  rw [Array.getElem?_eq_getElem hlt,hv]
 unfold Region.wanted
 generalize o.guard=g at hw
 cases hw with
 | free=>rfl
 | yes h1 h2 h3=>simp [yielded,h1,h2,key _ _ h3]
 | no h1 h2 h3 hne=>simp [yielded,h1,h2,key _ _ h3,hne]
 | @off g t og b h1 h2 h3 =>
  obtain ⟨c,l,hk⟩:=offB_inv h3
  have hv:=(hr.key t _ hk).2.root.2
  simp only [tupParts] at hv
  have:yielded ops a.tmps g=none:=by
   unfold yielded
   simp only [h1,h2,Option.bind_some]
   cases ht:a.tmps[t]? with
   | none=>rfl
   | some v =>
    rw [Array.getD_eq_getD_getElem?,ht] at hv
    simp at hv
    subst hv
    rfl
  simp [this]
def offAt (σ:St):Option Nat->List (Nat×Ky)
 | some d=>[(d,⟨.tup [],[],logAt σ d⟩)]
 | none=>[]
section
variable {P:Program} {S:List Nat} {T:Tab} {ops:Array Oper} {i:Nat} {o:Oper} {σ:St}
theorem ops_on (hi:ops[i]?=some o) (hw:Want ops σ o.guard true) {outs:List (Nat×Ky)}
  (h:∀ σ',Sub σ σ'->(∀ d,o.dst=some d->σ' d=σ d)->Snd P σ' o (ups σ' outs)):OpS P S ops i σ outs:=by
 intro σ' hbx hs hd cx a w hP hr hn K Q hK
 unfold wpOp
 rw [hi]
 simp only [(hw.sub hs).wanted hr,if_true]
 exact .inl (h σ' hs (fun d=>hd o d hi) cx a w hP hr (fun t ht=>hn o t hi ht) K Q hK)
theorem Rel.undef {cx:Cx} {σ:St} {a:Act} {w:World} (h:Rel cx σ a w) {d:Nat} (hd:d<cx.n):Rel cx (up σ d ⟨.tup [],[],logAt σ d⟩) (a.put (some d) undef) w:=by
 obtain ⟨I,U,B,F,hr⟩:=h
 refine ⟨I,_,_,_,(held_none hr).put hd (us:=fun _=>Go.undef) (bb:=(0,0)) (Fr.refl _ _) (fun _ _ _=>rfl) ⟨fun o ho=>absurd ho (Nat.not_lt_zero o),rfl⟩
  ⟨fun _=>FP.none,fun o x hx=>?_,fun _ _ _ h=>h.elim,fun _ _ h=>h.elim⟩ (fun b hb=>by simp [rootFP] at hb) (fun b hb=>by simp [FP.none] at hb)⟩
 simp at hx
theorem ops_off (hi:ops[i]?=some o) (hw:Want ops σ o.guard false):OpS P S ops i σ (offAt σ o.dst):=by
 intro σ' hbx hs hd cx a w hP hr hn K Q hK
 unfold wpOp
 rw [hi]
 simp only [(hw.sub hs).wanted hr]
 refine hK _ _ ?_
 cases hdst:o.dst with
 | none=>exact hr
 | some d =>
  have:=hr.undef (hn o d hi hdst)
  simp only [offAt,ups]
  rw [logAt] at this ⊢
  rw [<- hd o d hi hdst]
  exact this
theorem ops_pin (hi:ops[i]?=some o) (hw:Want ops σ o.guard true) {d t:Nat} (hd:o.dst=some d) (ho:o.op=.move (.tmp t)) (ht:t∈S):OpS P S ops i σ [(d,⟨.one,[.pr t 0 0],logAt σ d⟩)]:=by
 intro σ' hbx hs hd' cx a w hP hr hn K Q hK
 unfold wpOp
 rw [hi]
 simp only [(hw.sub hs).wanted hr,if_true]
 refine .inl (snd_one hd (σ:=σ') (x:=.pr t 0 0) (fun cx I U B F a w hP h=>?_) cx a w hP hr (fun q hq=>hn o q hi hq) K Q (fun a' w' h=>?_))
 ·obtain ⟨cells,lg,h1,h2⟩:=hbx t ht
  obtain ⟨_,hroot,_,_⟩:=h.key t _ h1
  obtain ⟨_,_,hv,_⟩:=hroot
  refine ⟨a.eval (.tmp t),by unfold execOp;simp only [ho,Sem.run_pure],⟨_,hv⟩,_,h1,Nat.zero_le _,fun _ _=>?_⟩
  show a.tmps.getD t undef=_
  rw [hv];simp
 ·refine hK a' w' ?_
  simp only [ups,logAt] at h ⊢
  rw [<- hd' o d hi hd];exact h
theorem ops_rd_one (hT:TabOk P T) (hi:ops[i]?=some o) (hw:Want ops σ o.guard true) {d:Nat} (hd:o.dst=some d) {ob:Prop} {x:SC} (h:rd1 T σ o.op=some (ob,.one x)) (hob:ob) :
  OpS P S ops i σ [(d,⟨.one,[x],logAt σ d⟩)]:=by
 refine ops_on hi hw fun σ' hs hl=>?_
 simp only [ups]
 rw [show logAt σ d=logAt σ' d by unfold logAt;rw [hl d hd]]
 refine snd_one hd fun cx I U B F a w hP hr=>?_
 subst hP
 exact rd1_ok hr hT (sub_rd1 hs h) hob
theorem ops_rd_agg (hT:TabOk P T) (hi:ops[i]?=some o) (hw:Want ops σ o.guard true) {d:Nat} (hd:o.dst=some d) {ob:Prop} {xs:List SC} (h:rd1 T σ o.op=some (ob,.agg xs)) (hob:ob) :
  OpS P S ops i σ [(d,⟨.agg,xs,logAt σ d⟩)]:=by
 refine ops_on hi hw fun σ' hs hl=>?_
 simp only [ups]
 rw [show logAt σ d=logAt σ' d by unfold logAt;rw [hl d hd]]
 refine snd_agg hd fun cx I U B F a w hP hr=>?_
 subst hP
 obtain ⟨v,h1,h2⟩:=rd1_ok hr hT (sub_rd1 hs h) hob
 obtain ⟨arr,rfl,h3,h4⟩:=h2
 exact ⟨arr,h1,h3,h4⟩
theorem ops_assign (hi:ops[i]?=some o) (hw:Want ops σ o.guard true) {d:Nat} {x:Operand} (hd:o.dst=some d) (ho:o.op=.assign x) {e:Ate} (he:steal σ x=some e) :
  OpS P S ops i σ (e.out++[(d,⟨if e.agg then .agg else .one,e.cells,logAt (ups σ e.out) d⟩)]):=by
 refine ops_on hi hw fun σ' hs hl=>?_
 rw [ups_append]
 simp only [ups]
 rw [<- logAt_ups (hl d hd)]
 exact snd_assign hd ho (sub_steal hs he)
theorem ops_take (hi:ops[i]?=some o) (hw:Want ops σ o.guard true) {d:Nat} {x:Operand} (hd:o.dst=some d) (ho:o.op=.move x) {e:Ate} (he:steal σ x=some e) :
  OpS P S ops i σ (e.out++[(d,⟨if e.agg then .agg else .one,e.cells,logAt (ups σ e.out) d⟩)]):=by
 refine ops_on hi hw fun σ' hs hl=>?_
 rw [ups_append]
 simp only [ups]
 rw [<- logAt_ups (hl d hd)]
 exact snd_take hd ho (sub_steal hs he)
theorem ops_box (hi:ops[i]?=some o) (hw:Want ops σ o.guard true) {d:Nat} {t:TypeId} {x:Operand} (hd:o.dst=some d) (ho:o.op=.box t x) {e:Ate} (he:eat σ x=some e) (hpos:0<e.cells.length) :
  OpS P S ops i σ (e.out++[(d,⟨.box,e.cells,logAt (ups σ e.out) d⟩)]):=by
 refine ops_on hi hw fun σ' hs hl=>?_
 rw [ups_append]
 simp only [ups]
 rw [<- logAt_ups (hl d hd)]
 exact snd_box hd ho (sub_eat hs he) hpos
theorem ops_alloc (hT:TabOk P T) (hi:ops[i]?=some o) (hw:Want ops σ o.guard true) {d:Nat} {t:TypeId} {ty:TyI} (hd:o.dst=some d) (ho:o.op=.alloc t) (ht:T t=some ty) (hpos:0<ty.zero.length) :
  OpS P S ops i σ [(d,⟨.box,ty.zc.map SC.c,logAt σ d⟩)]:=by
 refine ops_on hi hw fun σ' hs hl=>?_
 simp only [ups]
 rw [show logAt σ d=logAt σ' d by unfold logAt;rw [hl d hd]]
 exact snd_alloc hT hd ho ht hpos
theorem ops_build (hT:TabOk P T) (hi:ops[i]?=some o) (hw:Want ops σ o.guard true) {d:Nat} {t:TypeId} {ty:TyI} {parts:Array (Nat×Operand)} {l:List Part} {out:List (Nat×Ky)} {ys:List CV} (hd:o.dst=some d) (ho:o.op=.build t parts) (ht:T t=some ty) (hk:ty.k=.st)
  (he:eats σ parts.toList=some (l,out)) (hf:fills (ty.fields[·]?) ty.zc l=some ys) :
  OpS P S ops i σ (out++[(d,⟨.agg,ys.map SC.c,logAt (ups σ out) d⟩)]):=by
 refine ops_on hi hw fun σ' hs hl=>?_
 rw [ups_append]
 simp only [ups]
 rw [<- logAt_ups (hl d hd)]
 exact snd_build hT hd ho ht hk (sub_eats hs he) hf
theorem ops_buildSlice (hT:TabOk P T) (hi:ops[i]?=some o) (hw:Want ops σ o.guard true) {d n:Nat} {t e:TypeId} {it ie:TyI} {parts:Array (Nat×Operand)} {l:List Part} {out:List (Nat×Ky)} {ys:List CV} (hd:o.dst=some d) (ho:o.op=.buildSlice t n parts)
  (ht:T t=some it) (hk:it.k=.sl e) (hie:T e=some ie) (hpos:0<ie.size) (hsm:n*ie.size<=16777216)
  (he:eats σ parts.toList=some (l,out)) (b0:Bool) (hf:fills (fun i=>some (i*ie.size,ie.size,b0)) (List.replicate n ie.zc).flatten l=some ys) :
  OpS P S ops i σ (out++[(d,⟨.one,[.c (.ow e (tidy (rowsOf n ie.size ys)))],logAt (ups σ out) d⟩)]):=by
 refine ops_on hi hw fun σ' hs hl=>?_
 rw [ups_append]
 simp only [ups]
 rw [<- logAt_ups (hl d hd)]
 exact snd_buildSlice hT hd ho ht hk hie hpos hsm (sub_eats hs he) b0 hf
theorem ops_store (hT:TabOk P T) (hi:ops[i]?=some o) (hw:Want ops σ o.guard true) {t:TypeId} {p x:Operand} {ob:Prop} {out:List (Nat×Ky)} (hd:o.dst=none) (ho:o.op=.store t p x) (hv:vStore T σ t p x=some (ob,out)) (hob:ob) :
  OpS P S ops i σ out :=
 ops_on hi hw fun σ' hs hl=>snd_store hT hd ho (sub_vStore hs hv) hob
theorem ops_append (hT:TabOk P T) (hi:ops[i]?=some o) (hw:Want ops σ o.guard true) {d:Nat} {t e:TypeId} {it ie:TyI} {s x:Operand} {m:More} {b:Base} (hd:o.dst=some d) (ho:o.op=.call ⟨.builtin .append,#[s,x],#[t,t]⟩) (ht:T t=some it) (hk:it.k=.sl e) (hie:T e=some ie) (hpos:0<ie.size)
  (hm:vMore σ e x=some m) (hb:vBase (ups σ m.out) e s=some b) (hlen:(b.rows.n+m.rows.n)*ie.bytes<=140737488355328) (hbp:0<ie.bytes) :
  OpS P S ops i σ (m.out++b.out++[(d,⟨.one,[.c (.ow e (appR b.rows m.rows))],logAt (ups σ (m.out++b.out)) d⟩)]):=by
 refine ops_on hi hw fun σ' hs hl=>?_
 rw [ups_append]
 simp only [ups]
 rw [<- logAt_ups (hl d hd)]
 exact snd_append hT hd ho ht hk hie hpos (sub_vMore hs hm) (sub_vBase (sub_ups m.out hs) hb) hlen hbp
end
end Go.Proofs.AI
namespace Go.Proofs.AI
open Go.RowKit
set_option linter.unusedVariables false
set_option linter.unusedSimpArgs false
abbrev L:=List (Nat×Ky)
def mk:L->St
 | []=>fun _=>none
 | (d,K)::r=>up (mk r) d K
theorem ups_mk (outs:L):∀ l:L,ups (mk l) outs=mk (outs.reverse++l):=by
 induction outs with
 | nil=>intro l;rfl
 | cons x r ih =>
  intro l
  obtain ⟨d,K⟩:=x
  simp only [ups,List.reverse_cons,List.append_assoc,List.singleton_append]
  exact ih ((d,K)::l)
def fixC (V:List Nat) (σ:St):SC->SC
 | .c x=>.c x
 | .v e k o p n r=>if k∈V then match σ k with
  | some K=>if stale K.log n o p then .c .any else match K.cells[o]? with
   | some (.c _)=>.v e k o p 0 r
   | _=>.c .any
  | none=>.c .any
  else .c .any
 | .pr k o n=>if k∈V then match σ k with
  | some K=>if gone K.log n then .c .any else .pr k o 0
  | none=>.c .any
  else .c .any
 | .p e k o p n i j=>if k∈V then match σ k with
  | some K=>if stale K.log n o p then .c .any else match K.cells[o]? with
   | some (.c _)=>.p e k o p 0 i j
   | _=>.c .any
  | none=>.c .any
  else .c .any
 | .q row o=>.q row o
 | .fn f ks=>if ks.all (fun q=>V.contains q.1&&match σ q.1 with
   | some K=>!gone K.log q.2
   | none=>false) then .fn f (ks.map fun q=>(q.1,0)) else .c .any
def fixK (V:List Nat) (σ:St) (K:Ky):Ky:=⟨K.sh,K.cells.map (fixC V σ),[]⟩
def canon (V:List Nat) (σ:St):St:=fun k=>if k∈V then (σ k).map (fixK V σ) else none
section
variable {cx:Cx} {I:Nat->Prop} {U:Nat->Nat->Value} {B:Nat->Nat×Nat} {F:Nat->FP} {σ:St} {a:Act} {w:World}
theorem fixC_rep {V:List Nat} {x:SC} {v:Value} {G:FP} (h:SCRep cx.P w I σ U B x v G):SCRep cx.P w I (canon V σ) U B (fixC V σ x) v G:=by
 have hany:SCRep cx.P w I (canon V σ) U B (.c .any) v G:=Rep.any h.one
 have hcell:∀ {K:Ky} {o:Nat} {z x0:CV},K.cells[o]?=some (.c z)->(fixK V σ K).cells[o]?=some (.c x0)->K.cells[o]?=some (.c x0):=by
  intro K o z x0 h1 h2
  simp only [fixK,List.getElem?_map,h1,Option.map_some,fixC] at h2
  rw [h1];exact h2
 cases x with
 | c x=>exact h
 | v e k o p n r =>
  simp only [fixC]
  split
  ·rename_i hk
   split
   ·rename_i K hK
    split
    ·exact hany
    ·rename_i hst
     split
     ·rename_i z hz
      obtain ⟨h1,K',h2,h3,h4⟩:=h
      rw [hK] at h2;cases h2
      refine ⟨h1,fixK V σ K,by simp [canon,hk,hK],Nat.zero_le _,fun _ x0 y hx hy=>?_⟩
      exact h4 (by simpa using hst) x0 y (hcell hz hx) hy
     ·exact hany
   ·exact hany
  ·exact hany
 | pr k o n =>
  simp only [fixC]
  split
  ·rename_i hk
   split
   ·rename_i K hK
    split
    ·exact hany
    ·rename_i hst
     obtain ⟨h1,K',h2,h3,h4⟩:=h
     rw [hK] at h2;cases h2
     exact ⟨h1,fixK V σ K,by simp [canon,hk,hK],Nat.zero_le _,fun _ hb=>h4 (by simpa using hst) hb⟩
   ·exact hany
  ·exact hany
 | p e k o p n i j =>
  simp only [fixC]
  split
  ·rename_i hk
   split
   ·rename_i K hK
    split
    ·exact hany
    ·rename_i hst
     split
     ·rename_i z hz
      obtain ⟨h1,K',h2,h3,h4⟩:=h
      rw [hK] at h2;cases h2
      refine ⟨h1,fixK V σ K,by simp [canon,hk,hK],Nat.zero_le _,fun _ x0 es hx hy=>?_⟩
      exact h4 (by simpa using hst) x0 es (hcell hz hx) hy
     ·exact hany
   ·exact hany
  ·exact hany
 | q row o=>exact h
 | fn f ks =>
  simp only [fixC]
  split
  ·rename_i hall
   obtain ⟨vs,h1,h2,h3⟩:=h
   refine ⟨vs,h1,by simpa using h2,fun i k n hk=>?_⟩
   rw [List.getElem?_map] at hk
   obtain ⟨⟨k',n'⟩,hk',e⟩:=Option.map_eq_some_iff.1 hk
   injection e with e1 e2;simp only at e1;subst e1 e2
   have ha:=List.all_eq_true.1 hall _ (List.mem_of_getElem? hk')
   simp only [Bool.and_eq_true,List.contains_eq_mem,decide_eq_true_eq] at ha
   obtain ⟨a1,K',a2,a3,a4⟩:=h3 i k' n' hk'
   rw [a2] at ha
   exact ⟨a1,fixK V σ K',by simp [canon,ha.1,a2],Nat.zero_le _,fun _ hb=>a4 (by simpa using ha.2) hb⟩
  ·exact hany
theorem RelW.canon (h:RelW cx I U B F σ a w) (V:List Nat):RelW cx I U B (fun t=>if t∈V∨t=cx.n then F t else FP.none) (canon V σ) a w:=by
 have sub:∀ t b,(if t∈V∨t=cx.n then F t else FP.none) b->F t b/\(t∈V∨t=cx.n):=fun t b hb=>by
  split at hb
  ·rename_i h1;exact ⟨hb,h1⟩
  ·exact hb.elim
 refine ⟨h.size,h.defers,fun t K hK=>?_,fun t t' b h1 h2=>h.dis t t' b (sub t b h1).1 (sub t' b h2).1,fun t b hb=>h.own t b (sub t b hb).1,fun t b hb=>?_,h.ro,h.ro0,h.roN,h.fr⟩
 ·unfold AI.canon at hK
  split at hK
  ·rename_i ht
   obtain ⟨K0,hK0,rfl⟩:=Option.map_eq_some_iff.1 hK
   obtain ⟨h1,h2,⟨N,n1,n2,n3⟩,h4⟩:=h.key t K0 hK0
   refine ⟨h1,?_⟩
   simp only [ht,true_or,if_true]
   refine ⟨⟨fun o ho=>h2.1 o (by simpa [fixK] using ho),?_⟩,⟨N,fun o x hx=>?_,n2,n3⟩,h4⟩
   ·have h2:=h2.2
    simp only [fixK]
    cases hs:K0.sh with
    | one=>simp only [hs] at h2 ⊢;simpa using h2
    | agg=>simp only [hs] at h2 ⊢;simpa using h2
    | tup sig=>simp only [hs] at h2 ⊢;exact h2
    | box=>simp only [hs] at h2 ⊢;simpa using h2
   ·simp only [fixK,List.getElem?_map] at hx
    obtain ⟨y,hy,rfl⟩:=Option.map_eq_some_iff.1 hx
    exact fixC_rep (n1 o y hy)
  ·cases hK
 ·obtain ⟨h1,h2⟩:=sub t b hb
  rcases h.may t b h1 with h3 | h3 | ⟨K,h3,h4,h5⟩
  ·exact .inl h3
  ·exact .inr (.inl h3)
  ·refine .inr (.inr ⟨fixK V σ K,?_,h4,fun q q1 q2=>h5 q q1 (by simpa [fixK] using q2)⟩)
   rcases h2 with h2 | h2
   ·simp [AI.canon,h2,h3]
   ·exact absurd (h.key t K h3).1 (by omega)
end
theorem Rel.canon {cx:Cx} {σ:St} {a:Act} {w:World} (h:Rel cx σ a w) (V:List Nat):Rel cx (AI.canon V σ) a w:=by
 obtain ⟨I,U,B,F,hr⟩:=h
 exact ⟨I,U,B,_,hr.canon V⟩
def canonL (V:List Nat) (l:L):L:=V.filterMap fun k=>(mk l k).map fun K=>(k,fixK V (mk l) K)
theorem mk_canonL (l:L):∀ (V V0:List Nat) (k:Nat),mk (V.filterMap fun k=>(mk l k).map fun K=>(k,fixK V0 (mk l) K)) k=if k∈V then (mk l k).map (fixK V0 (mk l)) else none:=by
 intro V V0 k
 induction V with
 | nil=>rfl
 | cons d V ih =>
  simp only [List.filterMap_cons,List.mem_cons]
  cases hd:mk l d with
  | none =>
   simp only [Option.map_none]
   rw [ih]
   by_cases hk:k=d
   ·subst hk
    simp only [hd,true_or,if_true,Option.map_none]
    split<;>rfl
   ·simp only [hk,false_or]
  | some K =>
   simp only [Option.map_some,mk,up]
   by_cases hk:k=d
   ·subst hk
    simp only [if_true,hd,true_or,Option.map_some]
   ·simp only [hk,if_false,false_or]
    exact ih
theorem Rel.canonL {cx:Cx} {l:L} {a:Act} {w:World} (h:Rel cx (mk l) a w) (V:List Nat):Rel cx (mk (AI.canonL V l)) a w:=by
 have:=h.canon V
 have he:AI.canon V (mk l)=mk (AI.canonL V l):=by
  funext k
  unfold AI.canonL
  rw [mk_canonL]
  rfl
 rwa [he] at this
theorem At.to {cx:Cx} {l:L} {a:Act} {w:World} (h:At cx (mk l) a w) (V:List Nat) {l':L} (he:AI.canonL V l=l'):At cx (mk l') a w:=⟨he▸h.1.canonL V,h.2⟩
section
variable {P:Program} {cx:Cx} {σ:St} {a:Act} {w:World} {Q:Exit->Act->World->Prop}
theorem eval_bool (hr:At cx σ a w) {c:Operand} {t:Bool} (hc:oneC σ c=some (.b t)):a.eval c=.bool t:=by
 obtain ⟨⟨I,U,B,F,hr⟩,_⟩:=hr
 exact rep_b (oneC_rep hr hc)
theorem code_cond (hr:At cx σ a w) {c:Operand} {x y:Code} {t:Bool} (hc:oneC σ c=some (.b t)) (ht:t=true->x.wp P Q a w) (hf:t=false->y.wp P Q a w):(Code.cond c x y).wp P Q a w :=
 wp_cond_split (eval_bool hr hc) ht hf
theorem code_loop {α:Type} {c:Code} (inv:α->L) (pre:α->Prop) (μ:α->Nat) (x0:α) (h0:pre x0) (hr:At cx (mk (inv x0)) a w)
  (round:∀ x a w,pre x->At cx (mk (inv x)) a w->c.wp P (Exit.then (fun a' w'=>∃ y,pre y/\μ y<μ x/\At cx (mk (inv y)) a' w') Q) a w):(Code.loop c).wp P Q a w:=by
 let G:Act->World->Nat->Prop:=fun a w n=>∃ x,pre x/\At cx (mk (inv x)) a w/\μ x=n
 have key:∀ n a w,G a w n->∃ m,G a w m/\∀ k,G a w k->m<=k:=by
  intro n
  induction n using Nat.strongRecOn with
  | _ n ih =>
   intro a w hn
   by_cases h:∃ k,k<n/\G a w k
   ·obtain ⟨k,h1,h2⟩:=h
    exact ih k h1 a w h2
   ·exact ⟨n,hn,fun k hk=>Nat.le_of_not_lt fun hlt=>h ⟨k,hlt,hk⟩⟩
 have least:∃ M:Act->World->Nat,∀ a w,(∃ n,G a w n)->G a w (M a w)/\∀ k,G a w k->M a w<=k:=by
  refine ⟨fun a w=>Classical.epsilon fun m=>G a w m/\∀ k,G a w k->m<=k,fun a w ⟨n,hn⟩=>?_⟩
  exact Classical.epsilon_spec (key n a w hn)
 obtain ⟨M,hM⟩:=least
 refine wp_loop (fun a w=>∃ x,pre x/\At cx (mk (inv x)) a w) M ⟨x0,h0,hr⟩ fun a w ⟨x,h1,h2⟩=>?_
 obtain ⟨⟨y,h3,h4,h5⟩,h6⟩:=hM a w ⟨_,x,h1,h2,rfl⟩
 refine wp_mono (round y a w h3 h4) fun e a' w' hq=>?_
 cases e with
 | normal =>
  obtain ⟨z,h7,h8,h9⟩:=hq
  exact ⟨⟨z,h7,h9⟩,by rw [<- h5];exact Nat.lt_of_le_of_lt ((hM a' w' ⟨_,z,h7,h9,rfl⟩).2 _ ⟨z,h7,h9,rfl⟩) h8⟩
 | _=>exact hq
end
end Go.Proofs.AI
namespace Go.Proofs.AI
open Go.RowKit
set_option linter.unusedVariables false
set_option linter.unusedSimpArgs false
mutual
def frozen:CV->CV
 | .ow e es=>.sh e (frozenRs es)
 | .any=>.any
 | .b x=>.b x
 | .n k x=>.n k x
 | .s x=>.s x
 | .vl v=>.vl v
 | .sh e es=>.sh e es
 | .rp r=>.rp r
 | .fn f r=>.fn f r
 | .ln n=>.ln n
def frozenRs:Rows CV->Rows CV
 | ⟨n,f⟩=>⟨n,fun k=>frozenR (f k)⟩
def frozenR:List CV->List CV
 | []=>[]
 | x::xs=>frozen x::frozenR xs
end
theorem frozenR_map:∀ xs,frozenR xs=xs.map frozen
 | []=>by simp [frozenR]
 | x::xs=>by simp [frozenR,frozenR_map xs]
theorem frozenRs_map (es:Rows CV):frozenRs es=mapR frozen es:=by
 cases es;simp [frozenRs,mapR,frozenR_map]
theorem maxLen_le:maxLen<=9223372036854775807:=by simp [maxLen]
theorem frozen_rep {P:Program} {w:World} {I I':Nat->Prop} {x:CV} {v:Value} {F:FP} (h:Rep P w I x v F) (hI:∀ b,I b->I' b) (hF:∀ b,F b->I' b) (G:FP):Rep P w I' (frozen x) v G:=by
 induction h generalizing G with
 | any h=>simpa [frozen] using Rep.any h
 | b=>simpa [frozen] using Rep.b
 | n=>simpa [frozen] using Rep.n
 | s=>simpa [frozen] using Rep.s
 | vl h=>simpa [frozen] using Rep.vl h
 | sh us h1 h2 h3 h4 h5 ih =>
  simp only [frozen]
  refine .sh us h1 h2 (fun hp=>?_) h4 (fun k row o x hk ho=>(h5 k row o x hk ho).grow hI (fun b _=>.inr (fun h=>h)))
  obtain ⟨ad,e1,e2,e3⟩:=h3 hp
  exact ⟨ad,e1,hI _ e2,e3⟩
 | rp us h1 h2 h3 ih=>simpa [frozen] using Rep.rp us (hI _ h1) h2 (fun o x ho=>(h3 o x ho).grow hI (fun b _=>.inr (fun h=>h)))
 | fn vs h1 h2 ih=>simpa [frozen] using Rep.fn vs h1 (fun o x ho=>(h2 o x ho).grow hI (fun b _=>.inr (fun h=>h)))
 | ln h1 h2=>simpa [frozen] using Rep.ln h1 h2
 | @ow e es F g cap cur us G' h1 h2 h3 h4 h5 h6 h7 h8 h9 h10 h11 ih =>
  simp only [frozen,frozenRs_map]
  have rowOf:∀ (k:Nat) (row:List CV),(mapR frozen es).l[k]?=some row->∃ row0,es.l[k]?=some row0/\row=row0.map frozen:=by
   intro k row hk
   rw [mapR_l,List.getElem?_map] at hk
   obtain ⟨row0,h1,h2⟩:=Option.map_eq_some_iff.1 hk
   exact ⟨row0,h1,h2.symm⟩
  have:=@Rep.sh P w I' e (mapR frozen es) G (some ⟨g,0,.none⟩) cap us h3 (by exact Nat.le_trans h3 (Nat.le_trans h4 maxLen_le)) (fun hp=>⟨_,rfl,hF _ h5,fun k row hk o ho=>?_⟩) (fun k row hk=>?_) (fun k row o x hk hx=>?_)
  ·exact this
  ·obtain ⟨row0,e1,rfl⟩:=rowOf k row hk
   rw [add_plain,Nat.zero_add]
   simp [World.cell?,h1,h8 k row0 o e1 (by simpa using ho)]
  ·obtain ⟨row0,e1,rfl⟩:=rowOf k row hk
   simpa using h7 k row0 e1
  ·obtain ⟨row0,e1,rfl⟩:=rowOf k row hk
   simp only [List.getElem?_map] at hx
   obtain ⟨y,hy,rfl⟩:=Option.map_eq_some_iff.1 hx
   exact ih k row0 o y e1 hy (fun b hb=>hF b (h10 _ _ _ hb).1) _
 | @ow0 e es F h0 =>
  simp only [frozen,frozenRs_map]
  have hn:(mapR frozen es).n=0:=h0
  have hl:(mapR frozen es).l=[]:=Rows.l_nil hn
  have:=@Rep.sh P w I' e (mapR frozen es) G none 0 (fun _ _=>undef) (by omega) (by omega) (fun hp=>by omega) (fun k row hk=>by simp [hl] at hk) (fun k row o x hk=>by simp [hl] at hk)
  rwa [hn] at this
inductive Tl where
 | keep | drop | fz | fy
 | be (x:CV)
def inner:CV->CV
 | .ow e es=>.ow e (frozenRs es)
 | x=>x
def tell:Tl->SC->SC
 | .drop,.c _=>.c .any
 | .fz,.c x=>.c (frozen x)
 | .fy,.c x=>.c (inner x)
 | .be y,.c _=>.c y
 | _,x=>x
mutual
def cn:CV->CV
 | .ow e es=>.ow e (raw (cnRs es))
 | .sh e es=>.sh e (raw (cnRs es))
 | .any=>.any
 | .b x=>.b x
 | .n k x=>.n k x
 | .s x=>.s x
 | .vl v=>.vl v
 | .rp r=>.rp (cnR r)
 | .fn f r=>.fn f (cnR r)
 | .ln n=>.ln n
def cnRs:Rows CV->List (List CV)
 | ⟨n,f⟩=>(List.range n).map fun k=>cnR (f k)
def cnR:List CV->List CV
 | []=>[]
 | x::xs=>cn x::cnR xs
end
theorem cnR_map:∀ xs,cnR xs=xs.map cn
 | []=>by simp [cnR]
 | x::xs=>by simp [cnR,cnR_map xs]
theorem cnRs_l (r:Rows CV):cnRs r=r.l.map (·.map cn):=by
 cases r;simp [cnRs,Rows.l,cnR_map]
theorem raw_inj {C:Type} {a b:List (List C)}:raw a=raw b↔a=b :=
 ⟨fun h=>by rw [<- raw_l a,h,raw_l],fun h=>by rw [h]⟩
theorem cnRs_n {a b:Rows CV} (h:cnRs a=cnRs b):a.n=b.n:=by
 have:=congrArg List.length h
 simpa [cnRs_l] using this
theorem cnRs_row {a b:Rows CV} (h:cnRs a=cnRs b) {k:Nat} {row:List CV} (hk:b.l[k]?=some row):∃ row0,a.l[k]?=some row0/\row0.length=row.length/\∀ (o:Nat) x,row[o]?=some x->∃ x0,row0[o]?=some x0/\cn x0=cn x:=by
 have h1:=congrArg (·[k]?) h
 simp only [cnRs_l,List.getElem?_map,hk,Option.map_some] at h1
 obtain ⟨row0,e1,e2⟩:=Option.map_eq_some_iff.1 h1
 refine ⟨row0,e1,by simpa using congrArg List.length e2,fun o x hx=>?_⟩
 have h2:=congrArg (·[o]?) e2
 simp only [List.getElem?_map,hx,Option.map_some] at h2
 exact Option.map_eq_some_iff.1 h2
theorem cn_rep {P:Program} {w:World} {I:Nat->Prop} {x:CV} {v:Value} {F:FP} (h:Rep P w I x v F):∀ y,cn x=cn y->Rep P w I y v F:=by
 induction h with
 | any h1=>intro y hy;cases y<;>simp [cn] at hy;exact .any h1
 | b=>intro y hy;cases y<;>simp [cn] at hy;subst hy;exact .b
 | n=>intro y hy;cases y<;>simp [cn] at hy;obtain ⟨rfl,rfl⟩:=hy;exact .n
 | s=>intro y hy;cases y<;>simp [cn] at hy;subst hy;exact .s
 | vl h1=>intro y hy;cases y<;>simp [cn] at hy;subst hy;exact .vl h1
 | sh us h1 h2 h3 h4 h5 ih =>
  intro y hy
  cases y<;>simp [cn] at hy
  obtain ⟨rfl,hy⟩:=hy
  have hy:=raw_inj.1 hy
  have hn:=cnRs_n hy
  rw [hn];rw [hn] at h1 h2 h3
  refine .sh us h1 h2 (fun hp=>?_) (fun k row hk=>?_) (fun k row o x hk hx=>?_)
  ·obtain ⟨ad,a1,a2,a3⟩:=h3 hp
   refine ⟨ad,a1,a2,fun k row hk o ho=>?_⟩
   obtain ⟨row0,e1,e2,_⟩:=cnRs_row hy hk
   exact a3 k row0 e1 o (by omega)
  ·obtain ⟨row0,e1,e2,_⟩:=cnRs_row hy hk
   rw [<- e2];exact h4 k row0 e1
  ·obtain ⟨row0,e1,e2,e3⟩:=cnRs_row hy hk
   obtain ⟨x0,g1,g2⟩:=e3 o x hx
   exact ih k row0 o x0 e1 g1 x g2
 | ow us G h1 h2 h3 h4 h5 h6 h7 h8 h9 h10 h11 ih =>
  intro y hy
  cases y<;>simp [cn] at hy
  obtain ⟨rfl,hy⟩:=hy
  have hy:=raw_inj.1 hy
  have hn:=cnRs_n hy
  rw [hn];rw [hn] at h3
  refine .ow us G h1 h2 h3 h4 h5 h6 (fun k row hk=>?_) (fun k row o hk ho=>?_) (fun k row o x hk hx=>?_) h10 h11
  ·obtain ⟨row0,e1,e2,_⟩:=cnRs_row hy hk
   rw [<- e2];exact h7 k row0 e1
  ·obtain ⟨row0,e1,e2,_⟩:=cnRs_row hy hk
   exact h8 k row0 o e1 (by omega)
  ·obtain ⟨row0,e1,e2,e3⟩:=cnRs_row hy hk
   obtain ⟨x0,g1,g2⟩:=e3 o x hx
   exact ih k row0 o x0 e1 g1 x g2
 | ow0 h0 =>
  intro y hy
  cases y<;>simp [cn] at hy
  obtain ⟨rfl,hy⟩:=hy
  exact .ow0 ((cnRs_n (raw_inj.1 hy))▸h0)
 | @rp row ad F us h1 h2 h3 ih =>
  intro y hy
  cases y<;>simp [cn] at hy
  rename_i r
  have hl:row.length=r.length:=by have:=congrArg List.length hy;simpa [cnR_map] using this
  refine .rp us h1 (fun o ho=>h2 o (by omega)) (fun o x hx=>?_)
  have h4:=congrArg (·[o]?) hy
  simp only [cnR_map,List.getElem?_map,hx,Option.map_some] at h4
  obtain ⟨x0,g1,g2⟩:=Option.map_eq_some_iff.1 h4
  exact ih o x0 g1 x g2
 | @fn f caps F vs h1 h2 ih =>
  intro y hy
  cases y<;>simp [cn] at hy
  rename_i f' r
  obtain ⟨rfl,hy⟩:=hy
  have hl:caps.length=r.length:=by have:=congrArg List.length hy;simpa [cnR_map] using this
  refine .fn vs (by omega) (fun o x hx=>?_)
  have h4:=congrArg (·[o]?) hy
  simp only [cnR_map,List.getElem?_map,hx,Option.map_some] at h4
  obtain ⟨x0,g1,g2⟩:=Option.map_eq_some_iff.1 h4
  exact ih o x0 g1 x g2
 | ln h1 h2=>intro y hy;cases y<;>simp [cn] at hy;subst hy;exact .ln h1 h2
def beOb:CV->CV->Prop
 | .vl (.slice none 0 0),.ow _ r=>r.n=0
 | .vl (.slice none 0 0),.sh _ r=>r.n=0
 | .vl u,.vl v=>u=v
 | .ow e es,.ow e' r=>if e=e' then cnRs es=cnRs r else False
 | .sh e es,.sh e' r=>if e=e' then cnRs es=cnRs r else False
 | .n k x,.n k' y=>if k=k' then x=y else False
 | .b x,.b y=>x=y
 | .s x,.s y=>x=y
 | .rp r,.rp r'=>cnR r=cnR r'
 | .ln n,.ln m=>n=m
 | .fn f r,.fn f' r'=>if f=f' then cnR r=cnR r' else False
 | _,.any=>True
 | _,_=>False
theorem ifOb {p q:Prop} [Decidable p] (h:if p then q else False):p/\q:=by
 split at h
 ·exact ⟨‹_›,h⟩
 ·exact h.elim
theorem beOb_rep {P:Program} {w:World} {I:Nat->Prop} {x y:CV} {v:Value} {F:FP} (hb:beOb x y) (h:Rep P w I x v F):Rep P w I y v F:=by
 unfold beOb at hb
 split at hb
 ·cases h;exact .ow0 hb
 ·rename_i e r
  cases h
  have hl:r.l=[]:=Rows.l_nil hb
  have:=@Rep.sh P w I e r F none 0 (fun _ _=>undef) (by omega) (by omega) (fun hp=>by omega) (fun k row hk=>by simp [hl] at hk) (fun k row o x hk=>by simp [hl] at hk)
  rwa [hb] at this
 ·subst hb;exact h
 ·obtain ⟨rfl,hl⟩:=ifOb hb
  exact cn_rep h _ (by simp only [cn,hl])
 ·obtain ⟨rfl,hl⟩:=ifOb hb
  exact cn_rep h _ (by simp only [cn,hl])
 ·obtain ⟨rfl,rfl⟩:=ifOb hb;exact h
 ·subst hb;exact h
 ·subst hb;exact h
 ·exact cn_rep h _ (by simp only [cn,hb])
 ·subst hb;exact h
 ·obtain ⟨rfl,hl⟩:=ifOb hb
  exact cn_rep h _ (by simp only [cn,hl])
 ·exact .any h.one
 ·exact hb.elim
def tellOb:Tl->SC->Prop
 | .be y,.c x=>beOb x y
 | .be _,_=>False
 | _,_=>True
def tells:List Tl->List SC->List SC
 | t::ts,x::xs=>tell t x::tells ts xs
 | _,xs=>xs
theorem tells_at:∀ (ts:List Tl) (xs:List SC) (o:Nat),(tells ts xs)[o]?=(xs[o]?).map (tell (ts.getD o .keep))
 | [],xs,o=>by cases h:xs[o]?<;>simp [tells,h,tell]
 | t::ts,[],o=>by simp [tells]
 | t::ts,x::xs,0=>by simp [tells]
 | t::ts,x::xs,o+1=>by simp [tells,tells_at ts xs o]
theorem tells_length:∀ (ts:List Tl) (xs:List SC),(tells ts xs).length=xs.length
 | [],xs=>by simp [tells]
 | t::ts,[]=>by simp [tells]
 | t::ts,x::xs=>by simp [tells,tells_length ts xs]
def marks (n:Nat):Log:=(List.range n).map fun o=>some (o,[])
theorem stale_marks {l:Log} {n o:Nat} {p:Way} {m:Nat} (hn:n<=l.length) (h:stale (l++marks m) n o p=false):stale l n o p=false/\m<=o:=by
 unfold stale at *
 rw [List.drop_append_of_le_length hn,List.any_append,Bool.or_eq_false_iff] at h
 refine ⟨h.1,Nat.le_of_not_lt fun hlt=>?_⟩
 have:=List.any_eq_false.1 h.2 (some (o,[])) (List.mem_map.2 ⟨o,List.mem_range.2 hlt,rfl⟩)
 exact this (by simp [hits,under])
theorem gone_marks {l:Log} {n m:Nat} (hn:n<=l.length):gone (l++marks m) n=gone l n:=by
 unfold gone
 rw [List.drop_append_of_le_length hn,List.any_append]
 have:(marks m).any Option.isNone=false:=List.any_eq_false.2 fun x hx=>by
  obtain ⟨o,_,rfl⟩:=List.mem_map.1 hx
  simp
 rw [this,Bool.or_false]
theorem Pres.marked {P:Program} {w w':World} {K:Ky} {cells:List SC} {U U':Nat->Value} {B:Nat×Nat} {m:Nat} (hl:cells.length<=m):Pres P w w' K ⟨K.sh,cells,K.log++marks m⟩ U U' B B:=by
 refine ⟨by simp,fun n o p hn hs=>?_,fun n hn hg=>⟨by rwa [gone_marks hn] at hg,fun h=>h,rfl⟩⟩
 obtain ⟨h1,h2⟩:=stale_marks hn hs
 refine ⟨h1,fun x' y' hx _=>?_⟩
 have:=(List.getElem?_eq_some_iff.1 hx).1
 simp only at this
 omega
theorem inner_rep {P:Program} {w:World} {I:Nat->Prop} {x:CV} {v:Value} {F:FP} (h:Rep P w I x v F):∃ Z:FP,(∀ b,Z b->F b)/\∀ I':Nat->Prop,(∀ b,I b->I' b)->(∀ b,Z b->I' b)->(∀ b,I' b->I b∨¬ F b∨Z b)->Rep P w I' (inner x) v fun b=>F b/\¬ Z b:=by
 cases h with
 | any h=>exact ⟨FP.none,fun _ h=>h.elim,fun I' _ _ _=>.any h⟩
 | b=>exact ⟨FP.none,fun _ h=>h.elim,fun I' _ _ _=>.b⟩
 | n=>exact ⟨FP.none,fun _ h=>h.elim,fun I' _ _ _=>.n⟩
 | s=>exact ⟨FP.none,fun _ h=>h.elim,fun I' _ _ _=>.s⟩
 | vl h=>exact ⟨FP.none,fun _ h=>h.elim,fun I' _ _ _=>.vl h⟩
 | sh us h1 h2 h3 h4 h5 =>
  exact ⟨FP.none,fun _ h=>h.elim,fun I' hI _ _=>(Rep.sh (F:=FP.none) us h1 h2 h3 h4 h5).grow hI (fun b _=>.inr fun h=>h) |>.mono fun b h=>h.elim⟩
 | rp us h1 h2 h3=>exact ⟨FP.none,fun _ h=>h.elim,fun I' hI _ _=>(Rep.rp (F:=FP.none) us h1 h2 h3).grow hI (fun b _=>.inr fun h=>h) |>.mono fun b h=>h.elim⟩
 | fn vs h1 h2=>exact ⟨FP.none,fun _ h=>h.elim,fun I' hI _ _=>(Rep.fn (F:=FP.none) vs h1 h2).grow hI (fun b _=>.inr fun h=>h) |>.mono fun b h=>h.elim⟩
 | ln h1 h2=>exact ⟨FP.none,fun _ h=>h.elim,fun I' _ _ _=>.ln h1 h2⟩
 | ow0 h0 =>
  refine ⟨FP.none,fun _ h=>h.elim,fun I' hI _ _=>?_⟩
  simp only [inner,frozenRs_map]
  exact .ow0 h0
 | @ow e es _ g cap cur us G h1 h2 h3 h4 h5 h6 h7 h8 h9 h10 h11 =>
  refine ⟨fun b=>∃ k o,G k o b,fun b ⟨k,o,h⟩=>(h10 k o b h).1,fun I' hI hZ hn=>?_⟩
  simp only [inner,frozenRs_map]
  have rowOf:∀ (k:Nat) (row:List CV),(mapR frozen es).l[k]?=some row->∃ row0,es.l[k]?=some row0/\row=row0.map frozen:=by
   intro k row hk
   rw [mapR_l,List.getElem?_map] at hk
   obtain ⟨row0,h1,h2⟩:=Option.map_eq_some_iff.1 hk
   exact ⟨row0,h1,h2.symm⟩
  have hg:¬ ∃ k o,G k o g:=fun ⟨k,o,h⟩=>(h10 k o g h).2 rfl
  refine Rep.ow (es:=mapR frozen es) us (fun _ _=>FP.none) h1 h2 h3 h4 ⟨h5,hg⟩ (fun h=>?_) (fun k row hk=>?_) (fun k row o hk ho=>?_) (fun k row o x hk hx=>?_) (fun _ _ _ h=>h.elim) (fun _ _ _ _ _ h=>h.elim)
  ·rcases hn _ h with h | h | h
   ·exact h6 h
   ·exact h h5
   ·exact hg h
  ·obtain ⟨row0,e1,rfl⟩:=rowOf k row hk
   simpa using h7 k row0 e1
  ·obtain ⟨row0,e1,rfl⟩:=rowOf k row hk
   exact h8 k row0 o e1 (by simpa using ho)
  ·obtain ⟨row0,e1,rfl⟩:=rowOf k row hk
   simp only [List.getElem?_map] at hx
   obtain ⟨y,hy,rfl⟩:=Option.map_eq_some_iff.1 hx
   exact frozen_rep (h9 k row0 o y e1 hy) hI (fun b hb=>hZ b ⟨k,o,hb⟩) _
section
variable {cx:Cx} {I:Nat->Prop} {U:Nat->Nat->Value} {B:Nat->Nat×Nat} {F:Nat->FP} {σ:St} {a:Act} {w:World}
def retold (K:Ky) (ts:List Tl):Ky:=⟨K.sh,tells ts K.cells,K.log++marks K.cells.length⟩
theorem Rel.tell (h:Rel cx σ a w) {k:Nat} {K:Ky} (hk:σ k=some K) (ts:List Tl) (hob:∀ o x,K.cells[o]?=some x->tellOb (ts.getD o .keep) x):Rel cx (up σ k (retold K ts)) a w:=by
 obtain ⟨I,U,B,F,h⟩:=h
 obtain ⟨hkn,hroot,⟨N,n1,n2,n3⟩,hrf⟩:=h.key k K hk
 have hkey:∀ k' K',σ k'=some K'->∃ K'',up σ k (retold K ts) k'=some K''/\Pres cx.P w w K' K'' (U k') (U k') (B k') (B k'):=by
  intro k' K' hk'
  by_cases e:k'=k
  ·subst e
   rw [hk] at hk';cases hk'
   exact ⟨retold K ts,by simp [up],Pres.marked (cells:=tells ts K.cells) (m:=K.cells.length) (by rw [tells_length];exact Nat.le_refl _)⟩
  ·exact ⟨K',by simp [up,e,hk'],h.same hk' (fun _ _=>rfl)⟩
 have hZ:∀ o,∃ Zo:FP,(∀ b,Zo b->N o b)/\∀ y,K.cells[o]?=some y->∀ I':Nat->Prop,(∀ b,I b->I' b)->(∀ b,Zo b->I' b)->(∀ b,I' b->I b∨¬ N o b∨Zo b) ->
   SCRep cx.P w I' (up σ k (retold K ts)) U B (AI.tell (ts.getD o .keep) y) (U k o) fun b=>N o b/\¬ Zo b:=by
  intro o
  rcases hy:K.cells[o]? with _ | y
  ·exact ⟨FP.none,fun _ h=>h.elim,fun y h=>by cases h⟩
  have hr:=n1 o y hy
  have hbe:=hob o y hy
  have grown:∀ I':Nat->Prop,(∀ b,I b->I' b)->(∀ b,I' b->I b∨¬ N o b∨FP.none b)->SCRep cx.P w I' (up σ k (retold K ts)) U B y (U k o) (fun b=>N o b/\¬ FP.none b):=fun I' hI hn=>by
   have e:(fun b=>N o b/\¬ FP.none b)=N o:=funext fun b=>propext ⟨fun h=>h.1,fun h=>⟨h,fun h=>h⟩⟩
   rw [e]
   exact hr.frame (fun _ _=>rfl) hI (fun b hb=>(hn b hb).imp id (fun h=>h.elim id fun h=>h.elim)) hkey
  generalize ts.getD o .keep=tl at hbe ⊢
  cases tl with
  | fz =>
   cases y with
   | c x=>exact ⟨N o,fun b h=>h,fun y hy I' hI hz hn=>by cases hy;exact frozen_rep hr hI hz _⟩
   | _=>exact ⟨FP.none,fun _ h=>h.elim,fun y hy I' hI hz hn=>by cases hy;exact grown I' hI hn⟩
  | fy =>
   cases y with
   | c x =>
    obtain ⟨Z,z1,z2⟩:=inner_rep hr
    exact ⟨Z,z1,fun y hy I' hI hz hn=>by cases hy;exact z2 I' hI hz hn⟩
   | _=>exact ⟨FP.none,fun _ h=>h.elim,fun y hy I' hI hz hn=>by cases hy;exact grown I' hI hn⟩
  | keep=>exact ⟨FP.none,fun _ h=>h.elim,fun y' hy I' hI hz hn=>by cases hy;cases y<;>exact grown I' hI hn⟩
  | drop =>
   cases y with
   | c x=>exact ⟨FP.none,fun _ h=>h.elim,fun y' hy I' hI hz hn=>by cases hy;exact Rep.any (grown I' hI hn).one⟩
   | _=>exact ⟨FP.none,fun _ h=>h.elim,fun y' hy I' hI hz hn=>by cases hy;exact grown I' hI hn⟩
  | be z =>
   cases y with
   | c x=>exact ⟨FP.none,fun _ h=>h.elim,fun y' hy I' hI hz hn=>by cases hy;exact beOb_rep hbe (grown I' hI hn)⟩
   | _=>exact hbe.elim
 obtain ⟨Zf,hZ⟩:=Classical.axiomOfChoice hZ
 let Z:FP:=fun b=>∃ o,Zf o b
 let I':Nat->Prop:=fun b=>I b∨Z b
 have zN:∀ o b,Z b->N o b->Zf o b:=fun o b ⟨o',ho'⟩ hb=>n2 _ _ _ ((hZ o').1 b ho') hb▸ho'
 refine ⟨I',U,B,fun t=>if t=k then (fun b=>F k b/\¬ Z b) else F t,h.step (fun t=>t=k) h.size h.defers (fun t ht=>by simp [up,ht]) (fun t ht=>rfl) (fun t ht=>by simp [ht]) (fun b hb=>.inl hb) (fun b hb=>?_) (fun b hb=>rfl)
  (fun t K' ht hK'=>?_) (fun t K' ht hK'=>?_) (fun t t' b h1 h2=>?_) (fun t b hb=>?_) (fun t b ht hb=>?_) (fun b hb=>?_) h.fr⟩
 ·rcases hb with hb | ⟨o,ho⟩
  ·exact .inl hb
  ·obtain ⟨m1,m2⟩:=n3 o b ((hZ o).1 b ho)
   refine .inr ⟨fun t ht hF=>ht (h.dis _ _ _ hF m1),?_⟩
   rcases h.may k b m1 with h1 | h1 | ⟨K1,h1,h2,_⟩
   ·exact .inl h1
   ·exact .inr h1
   ·rw [hk] at h1;cases h1;exact absurd h2 m2
 ·subst ht
  simp [up] at hK'
  subst hK'
  refine ⟨hkn,?_⟩
  simp only [if_true]
  refine ⟨⟨fun o ho=>hroot.1 o (by simpa [retold,tells_length] using ho),?_⟩,⟨fun o b=>N o b/\¬ Zf o b,fun o x hx=>?_,fun o o' b h1 h2=>n2 _ _ _ h1.1 h2.1,fun o b hb=>?_⟩,fun b hb=>⟨hrf b hb,fun ⟨o,hz⟩=>(n3 o b ((hZ o).1 b hz)).2 hb⟩⟩
  ·have h2:=hroot.2
   simp only [retold]
   cases hs:K.sh with
   | one=>simp only [hs] at h2 ⊢;simpa [tells_length] using h2
   | agg=>simp only [hs] at h2 ⊢;simpa [tells_length] using h2
   | tup sig=>simp only [hs] at h2 ⊢;exact h2
   | box=>simp only [hs] at h2 ⊢;simpa [tells_length] using h2
  ·simp only [retold,tells_at] at hx
   obtain ⟨y,hy,rfl⟩:=Option.map_eq_some_iff.1 hx
   exact (hZ o).2 y hy I' (fun b hb=>.inl hb) (fun b hb=>.inr ⟨o,hb⟩) (fun b hb=>hb.imp id fun hz=>by
    by_cases hN:N o b
    ·exact .inr (zN o b hz hN)
    ·exact .inl hN)
  ·obtain ⟨m1,m2⟩:=n3 o b hb.1
   exact ⟨⟨m1,fun hz=>hb.2 (zN o b hz hb.1)⟩,m2⟩
 ·subst ht
  rw [hk] at hK';cases hK'
  exact ⟨retold K ts,by simp [up],Pres.marked (cells:=tells ts K.cells) (m:=K.cells.length) (by rw [tells_length];exact Nat.le_refl _)⟩
 ·by_cases e1:t=k<;>by_cases e2:t'=k
  ·rw [e1,e2]
  ·simp only [e1,e2,if_true,if_false] at h1 h2
   exact e1▸h.dis _ _ _ h1.1 h2
  ·simp only [e1,e2,if_true,if_false] at h1 h2
   exact e2▸h.dis _ _ _ h1 h2.1
  ·simp only [e1,e2,if_false] at h1 h2
   exact h.dis _ _ _ h1 h2
 ·by_cases e1:t=k
  ·subst e1
   simp only [if_true] at hb
   exact ⟨(h.own _ _ hb.1).1,fun hi=>hi.elim (h.own _ _ hb.1).2 hb.2⟩
  ·simp only [e1,if_false] at hb
   refine ⟨(h.own _ _ hb).1,fun hi=>hi.elim (h.own _ _ hb).2 (fun ⟨o,hz⟩=>e1 (h.dis _ _ _ hb (n3 o b ((hZ o).1 b hz)).1))⟩
 ·subst ht
  simp only [if_true] at hb
  rcases h.may t b hb.1 with h1 | h1 | ⟨K1,h1,h2,h3⟩
  ·exact .inl h1
  ·exact .inr (.inl h1)
  ·rw [hk] at h1;cases h1
   exact .inr (.inr ⟨retold K ts,by simp [up],h2,fun q q1 q2=>h3 q q1 (by simpa [retold,tells_length] using q2)⟩)
 ·rcases hb with hb | ⟨o,hz⟩
  ·exact h.ro b hb
  ·exact (h.own _ _ (n3 o b ((hZ o).1 b hz)).1).1
theorem At.tell {l:L} (h:At cx (mk l) a w) {k:Nat} {K:Ky} (hk:mk l k=some K) (ts:List Tl) (hob:∀ o x,K.cells[o]?=some x->tellOb (ts.getD o .keep) x):At cx (mk ((k,retold K ts)::l)) a w:=⟨h.1.tell hk ts hob,h.2⟩
end
end Go.Proofs.AI
namespace Go.Proofs.AI
open Go.RowKit
set_option linter.unusedVariables false
set_option linter.unusedSimpArgs false
def grab1 (σ:St) (t o:Nat):Option (CV×L) :=
 match σ t with
 | some K=>match K.cells[o]? with
  | some (.c x)=>if isOw (.c x) then some (x,[(t,⟨K.sh,K.cells.set o (.c (CV.put .any x [])),K.log⟩)]) else some (x,[])
  | some (.v e k o2 p n r)=>if r.isSome then none else match σ k with
   | some K2=>if stale K2.log n o2 p then none else match K2.cells[o2]? with
    | some (.c x0)=>match x0.get p with
     | some (.ow e2 es)=>if e2=e then some (.ow e2 es,[(k,⟨K2.sh,K2.cells.set o2 (.c (CV.put .any x0 p)),K2.log⟩)]) else none
     | _=>none
    | _=>none
   | none=>none
  | some _=>some (.any,[])
  | none=>none
 | none=>none
def grabs:Nat->St->Nat->Nat->Option (List CV×L)
 | 0,_,_,_=>some ([],[])
 | m+1,σ,t,o=>match grab1 σ t o with
  | some (x,o1)=>match grabs m (ups σ o1) t (o+1) with
   | some (xs,o2)=>some (x::xs,o1++o2)
   | none=>none
  | none=>none
section
variable {cx:Cx} {I:Nat->Prop} {U:Nat->Nat->Value} {B:Nat->Nat×Nat} {F:Nat->FP} {σ:St} {a:Act} {w:World}
structure Grabbed (cx:Cx) (I:Nat->Prop) (U:Nat->Nat->Value) (B:Nat->Nat×Nat) (σ':St) (a:Act) (w:World) (D0:FP) (us:Nat->Value) (xs:List CV) (F':Nat->FP) (N:Nat->FP):Prop where
 rel:RelW cx I U B F' σ' a w
 rep:∀ (o:Nat) x,xs[o]?=some x->Rep cx.P w I x (us o) (N o)
 dis:∀ o o' b,N o b->N o' b->o=o'
 sub:∀ o b,N o b->F' cx.n b/\¬ D0 b/\(cx.w0.heap.size<=b∨∀ q,cx.F0 b q)
 old:∀ b,D0 b->F' cx.n b
 new:∀ b,F' cx.n b->D0 b∨∃ o,N o b
theorem take_one (h:RelW cx I U B F σ a w) {k o:Nat} {p:Way} {K:Ky} {x y:CV} (hk:σ k=some K) (hx:K.cells[o]?=some (.c x)) (hy:x.get p=some y) :
  ∃ v F' N,conc cx.P w x (U k o) p=some v/\RelW cx I U B F' (up σ k ⟨K.sh,K.cells.set o (.c (CV.put .any x p)),K.log⟩) a w/\Rep cx.P w I y v N/\(∀ b,N b->F' cx.n b/\¬ F cx.n b/\(cx.w0.heap.size<=b∨∀ q,cx.F0 b q)) /\
   (∀ b,F cx.n b->F' cx.n b)/\(∀ b,F' cx.n b->F cx.n b∨N b):=by
 obtain ⟨v,N,t1,t2,t3,t4⟩:=h.take hk hx hy
 have hne:k≠cx.n:=Nat.ne_of_lt (h.key k K hk).1
 exact ⟨v,_,N,t1,t4,t2,fun b hb=>⟨by simp [Ne.symm hne,hb],fun hn=>hne (h.dis _ _ _ (t3 b hb).1 hn),(t3 b hb).2⟩,fun b hb=>by simp [Ne.symm hne,hb],fun b hb=>by simpa [Ne.symm hne] using hb⟩
theorem grab1_ok (h:RelW cx I U B F σ a w) {t o:Nat} {x:CV} {out:L} (hg:grab1 σ t o=some (x,out)) :
  ∃ F' N,RelW cx I U B F' (ups σ out) a w/\Rep cx.P w I x (U t o) N/\(∀ b,N b->F' cx.n b/\¬ F cx.n b/\(cx.w0.heap.size<=b∨∀ q,cx.F0 b q))/\(∀ b,F cx.n b->F' cx.n b)/\(∀ b,F' cx.n b->F cx.n b∨N b):=by
 unfold grab1 at hg
 split at hg
 ·rename_i K hK
  obtain ⟨_,_,⟨N,n1,n2,n3⟩,_⟩:=h.key t K hK
  have plain:∀ {y:CV},(∀ e es,y≠.ow e es)->Rep cx.P w I y (U t o) (N o)->∃ F' N,RelW cx I U B F' (ups σ []) a w/\Rep cx.P w I y (U t o) N/\(∀ b,N b->F' cx.n b/\¬ F cx.n b/\(cx.w0.heap.size<=b∨∀ q,cx.F0 b q))/\(∀ b,F cx.n b->F' cx.n b)/\(∀ b,F' cx.n b->F cx.n b∨N b) :=
   fun hy hr=>⟨F,FP.none,h,hr.plain hy,fun b hb=>hb.elim,fun b hb=>hb,fun b hb=>.inl hb⟩
  split at hg
  ·rename_i y hy
   split at hg
   ·injection hg with hg;injection hg with h1 h2;subst h1 h2
    obtain ⟨v,F',N',t1,t2,t3,t4,t5,t6⟩:=take_one h hK hy (p:=[]) (y:=y) rfl
    obtain rfl:U t o=v:=by simpa [conc] using t1
    exact ⟨F',N',t2,t3,t4,t5,t6⟩
   ·rename_i hno
    injection hg with hg;injection hg with h1 h2;subst h1 h2
    refine plain (fun e es he=>?_) (n1 o _ hy)
    subst he
    simp [isOw] at hno
  ·rename_i e k o2 p n r hy
   split at hg
   ·cases hg
   ·rename_i hr
    have hr:r=none:=by simpa using hr
    subst hr
    split at hg
    ·rename_i K2 hK2
     split at hg
     ·cases hg
     ·rename_i hst
      split at hg
      ·rename_i x0 hx0
       split at hg
       ·rename_i e2 es hge
        split at hg
        ·rename_i he
         subst he
         injection hg with hg;injection hg with h1 h2;subst h1 h2
         obtain ⟨v,F',N',t1,t2,t3,t4,t5,t6⟩:=take_one h hK2 hx0 hge
         obtain ⟨_,K',hK',_,hv⟩:=n1 o _ hy
         rw [hK2] at hK';cases hK'
         obtain ⟨u,c1,c2⟩:=hv (by simpa using hst) x0 _ hx0 hge
         rw [t1] at c1;cases c1
         simp only [sub] at c2
         rw [c2]
         exact ⟨F',N',t2,t3,t4,t5,t6⟩
        ·cases hg
       ·cases hg
      ·cases hg
    ·cases hg
  ·rename_i y hno1 hno2 hy
   injection hg with hg;injection hg with h1 h2;subst h1 h2
   exact plain (fun e es he=>by cases he) (Rep.any (n1 o _ ‹_›).one)
  ·cases hg
 ·cases hg
theorem grabs_ok:∀ (m:Nat) {F:Nat->FP} {σ:St} {t o:Nat} {xs:List CV} {out:L},RelW cx I U B F σ a w->grabs m σ t o=some (xs,out) ->
  ∃ F' N,xs.length=m/\Grabbed cx I U B (ups σ out) a w (F cx.n) (fun j=>U t (o+j)) xs F' N:=by
 intro m
 induction m with
 | zero =>
  intro F σ t o xs out h hg
  simp only [grabs] at hg
  injection hg with hg;injection hg with h1 h2;subst h1 h2
  exact ⟨F,fun _=>FP.none,rfl,h,fun o x hx=>by simp at hx,fun _ _ _ h=>h.elim,fun _ _ h=>h.elim,fun _ h=>h,fun _ h=>.inl h⟩
 | succ m ih =>
  intro F σ t o xs out h hg
  simp only [grabs] at hg
  split at hg
  ·rename_i x o1 hg1
   split at hg
   ·rename_i ys o2 hg2
    injection hg with hg;injection hg with h1 h2;subst h1 h2
    obtain ⟨F1,N1,r1,r2,r3,r4,r5⟩:=grab1_ok h hg1
    obtain ⟨F2,N2,hl,g⟩:=ih r1 hg2
    refine ⟨F2,fun j=>match j with | 0=>N1 | j+1=>N2 j,by simp [hl],by rw [ups_append];exact g.rel,fun j y hj=>?_,fun j j' b h1 h2=>?_,fun j b hb=>?_,fun b hb=>g.old b (r4 b hb),fun b hb=>?_⟩
    ·cases j with
     | zero=>simp at hj;subst hj;exact r2
     | succ j =>
      have:=g.rep j y (by simpa using hj)
      rw [show o+(j+1)=o+1+j by omega]
      exact this
    ·cases j<;>cases j'
     ·rfl
     ·exact absurd (r3 b h1).1 (g.sub _ b h2).2.1
     ·exact absurd (r3 b h2).1 (g.sub _ b h1).2.1
     ·exact congrArg _ (g.dis _ _ _ h1 h2)
    ·cases j with
     | zero=>exact ⟨g.old b (r3 b hb).1,(r3 b hb).2⟩
     | succ j =>
      obtain ⟨s1,s2,s3⟩:=g.sub j b hb
      exact ⟨s1,fun hn=>s2 (r4 b hn),s3⟩
    ·rcases g.new b hb with h1 | ⟨j,h1⟩
     ·exact (r5 b h1).imp id (fun h=>⟨0,h⟩)
     ·exact .inr ⟨j+1,h1⟩
   ·cases hg
  ·cases hg
theorem rep_cut {P:Program} {w:World} {I:Nat->Prop} {e:TypeId} {es:Rows CV} {u:Value} {G:FP} (h:Rep P w I (.sh e es) u G) {lo hi:Nat} (hle:hi<=es.n) (hlo:lo<=hi) (G':FP) :
  Rep P w I (.sh e (cutRows es (some (lo,hi)))) (sub P e u (some (lo,hi))) G':=by
 obtain ⟨A,c,us,rfl,g1,g2,g3,g4,g5⟩:=h.sh_inv
 have hlen:(cutR es lo hi).n=hi-lo:=rfl
 have hget:∀ k,(cutR es lo hi).l[k]?=if lo+k<hi then es.l[lo+k]? else none:=fun k=>cutR_at es hle k
 simp only [cutRows,sub]
 rw [<- hlen]
 refine Rep.sh (fun k o=>us (lo+k) o) (by rw [hlen];omega) (by rw [hlen];omega) (fun hp=>?_) (fun k row hk=>?_) (fun k row o x hk hx=>?_)
 ·obtain ⟨ad,e1,e2,e3⟩:=g3 (by omega)
  subst e1
  rw [if_neg (by omega)]
  refine ⟨ad.add (lo*P.cellsOf e),rfl,by rw [add_block];exact e2,fun k row hk o ho=>?_⟩
  rw [hget] at hk
  split at hk
  ·rw [add_add,<- Nat.add_assoc,<- Nat.add_mul]
   exact e3 _ row hk o ho
  ·cases hk
 ·rw [hget] at hk
  split at hk
  ·exact g4 _ row hk
  ·cases hk
 ·rw [hget] at hk
  split at hk
  ·exact g5 _ row o x hk hx
  ·cases hk
end
end Go.Proofs.AI
namespace Go.Proofs.AI
open Go.RowKit
set_option linter.unusedVariables false
set_option linter.unusedSimpArgs false
mutual
def noSh:CV->Prop
 | .ow _ es=>noShRs es
 | .sh _ _=>False
 | .any=>True
 | .b _=>True
 | .n _ _=>True
 | .s _=>True
 | .vl _=>True
 | .rp _=>False
 | .fn _ _=>False
 | .ln _=>True
def noShRs:Rows CV->Prop
 | ⟨_,f⟩=>∀ k,noShR (f k)
def noShR:List CV->Prop
 | []=>True
 | x::xs=>noSh x/\noShR xs
end
theorem noShR_all:∀ xs,noShR xs->∀ x∈xs,noSh x
 | [],_,x,h=>by simp at h
 | y::xs,h,x,hx=>by
  simp only [noShR] at h
  rcases List.mem_cons.1 hx with rfl | hx
  ·exact h.1
  ·exact noShR_all xs h.2 x hx
theorem noShRs_all {es:Rows CV} (h:noShRs es) {k:Nat} {row:List CV} (hk:es.l[k]?=some row):∀ x∈row,noSh x:=by
 obtain ⟨n,f⟩:=es
 obtain ⟨_,rfl⟩:=Rows.l_lt hk
 simp only [noShRs] at h
 exact noShR_all _ (h k)
theorem noSh_rep {P:Program} {w:World} {I I':Nat->Prop} {x:CV} {v:Value} {F:FP} (h:Rep P w I x v F) (hI:∀ b,I' b->I b) (hn:noSh x):Rep P w I' x v F:=by
 induction h with
 | any h=>exact .any h
 | b=>exact .b
 | n=>exact .n
 | s=>exact .s
 | vl h=>exact .vl h
 | sh us h1 h2 h3 h4 h5 ih=>simp [noSh] at hn
 | ow us G h1 h2 h3 h4 h5 h6 h7 h8 h9 h10 h11 ih =>
  refine .ow us G h1 h2 h3 h4 h5 (fun hg=>h6 (hI _ hg)) h7 h8 (fun k row o x hk ho=>ih k row o x hk ho ?_) h10 h11
  simp only [noSh] at hn
  exact noShRs_all hn hk x (List.mem_of_getElem? ho)
 | ow0 h=>exact .ow0 h
 | rp us h1 h2 h3 ih=>simp [noSh] at hn
 | fn vs h1 h2 ih=>simp [noSh] at hn
 | ln h1 h2=>exact .ln h1 h2
def CallsTo (P:Program) (f:FuncId) (args:Array Value) (w:World) (R:Value->World->Prop):Prop :=
 match (callFunc f args).run P w with
 | .ok (.value v) w'=>R v w'
 | .ok (.enter g as) w'=>Calls P g as w' fun e w''=>∃ v,e=.returned v/\R v w''
 | .ok (.row row as) w'=>Go.Rows P row as w' R
 | _=>False
theorem CallsTo.mono {P:Program} {f:FuncId} {args:Array Value} {w:World} {R R':Value->World->Prop} (h:CallsTo P f args w R) (hr:∀ v w',R v w'->R' v w'):CallsTo P f args w R':=by
 unfold CallsTo at *
 split at h
 ·exact hr _ _ h
 ·exact Calls.mono h fun e w'' ⟨v,h1,h2⟩=>⟨v,h1,hr _ _ h2⟩
 ·exact Rows.mono h hr
 ·exact h.elim
def FunOK (P:Program) (f:FuncId) (m:Nat) (bx:List Nat) (ins:L) (post:L->Prop):Prop :=
 ∀ (F0:CP) (I0:Nat->Prop) (args:Array Value) (w:World),args.size=m->Rel ⟨P,m,w,F0,I0,[],#[]⟩ (mk ins) ⟨args,[]⟩ w ->
  CallsTo P f args w fun v w'=>∃ l,post l/\Rel ⟨P,m+1,w,F0,I0,bx,args⟩ (mk l) ⟨args.push v,[]⟩ w'
def isC:SC->Bool
 | .c _=>true
 | _=>false
def noShC:SC->Prop
 | .c x=>noSh x
 | _=>False
def noShL:List SC->Prop
 | []=>True
 | x::xs=>noShC x/\noShL xs
theorem noShL_all:∀ xs,noShL xs->∀ x∈xs,noShC x
 | [],_,x,h=>by simp at h
 | y::xs,h,x,hx=>by
  simp only [noShL] at h
  rcases List.mem_cons.1 hx with rfl | hx
  ·exact h.1
  ·exact noShL_all xs h.2 x hx
def noSt:St:=fun _=>none
theorem isC_rep {P:Program} {w:World} {I I':Nat->Prop} {σ σ':St} {U U':Nat->Nat->Value} {B B':Nat->Nat×Nat} {x:SC} {v:Value} {G:FP} (hc:isC x=true) (h:SCRep P w I σ U B x v G) (hI:∀ y,x=.c y->Rep P w I y v G->Rep P w I' y v G):SCRep P w I' σ' U' B' x v G:=by
 cases x with
 | c y=>exact hI y rfl h
 | _=>simp [isC] at hc
theorem KR.turn {P:Program} {w:World} {I I':Nat->Prop} {σ σ':St} {U U':Nat->Nat->Value} {B B':Nat->Nat×Nat} {t t':Nat} {K K':Ky} {v:Value} {G:FP} (h:KR P w I σ U B t K v G)
  (hs:K'.sh=K.sh) (hcl:K'.cells=K.cells) (hU:U' t'=U t) (hB:B' t'=B t) (hc:K.cells.all isC=true) (hI:∀ (o:Nat) y (v:Value) (N:FP),K.cells[o]?=some (.c y)->Rep P w I y v N->Rep P w I' y v N):KR P w I' σ' U' B' t' K' v G:=by
 obtain ⟨h1,⟨N,n1,n2,n3⟩,h4⟩:=h
 refine ⟨?_,⟨N,fun o x hx=>?_,n2,fun o b hb=>?_⟩,fun b hb=>?_⟩
 ·unfold RootAt at h1 ⊢
  rw [hs,hcl,hU,hB];exact h1
 ·rw [hcl] at hx
  rw [hU]
  exact isC_rep (List.all_eq_true.1 hc x (List.mem_of_getElem? hx)) (n1 o x hx) (fun y hy hr=>hI o y _ _ (hy▸hx) hr)
 ·obtain ⟨m1,m2⟩:=n3 o b hb
  refine ⟨m1,fun hr=>m2 ?_⟩
  unfold rootFP at hr ⊢
  rw [<- hs,<- hB];exact hr
 ·refine h4 b ?_
  unfold rootFP at hb ⊢
  rw [<- hs,<- hB];exact hb
structure Split (cx:Cx) (I:Nat->Prop) (U:Nat->Nat->Value) (B:Nat->Nat×Nat) (F:Nat->FP) (σ:St) (w:World) (NN:Nat->Nat->FP):Prop where
 rep:∀ k K,σ k=some K->∀ o x,K.cells[o]?=some x->SCRep cx.P w I σ U B x (U k o) (NN k o)
 dis:∀ k o o' b,NN k o b->NN k o' b->o=o'
 sub:∀ k o b,NN k o b->∃ K,σ k=some K/\o<K.cells.length/\F k b/\¬ rootFP K (B k) b
theorem RelW.split {cx:Cx} {I:Nat->Prop} {U:Nat->Nat->Value} {B:Nat->Nat×Nat} {F:Nat->FP} {σ:St} {a:Act} {w:World} (h:RelW cx I U B F σ a w):∃ NN,Split cx I U B F σ w NN:=by
 have each:∀ k,∃ N:Nat->FP,∀ K,σ k=some K->(∀ o x,K.cells[o]?=some x->SCRep cx.P w I σ U B x (U k o) (N o))/\(∀ o o' b,N o b->N o' b->o=o')/\(∀ o b,N o b->F k b/\¬ rootFP K (B k) b):=fun k=>by
  cases hk:σ k with
  | none=>exact ⟨fun _=>FP.none,fun K hK=>by cases hK⟩
  | some K =>
   obtain ⟨_,_,⟨N,n1,n2,n3⟩,_⟩:=h.key k K hk
   exact ⟨N,fun K' hK=>by cases hK;exact ⟨n1,n2,n3⟩⟩
 obtain ⟨S,hS⟩:=Classical.axiomOfChoice each
 refine ⟨fun k o b=>(∃ K,σ k=some K/\o<K.cells.length)/\S k o b,fun k K hK o x hx=>?_,fun k o o' b h1 h2=>?_,fun k o b hb=>?_⟩
 ·have hlt:=(List.getElem?_eq_some_iff.1 hx).1
  exact ((hS k K hK).1 o x hx).mono fun b hb=>⟨⟨K,hK,hlt⟩,hb⟩
 ·obtain ⟨⟨K,hK,_⟩,h1⟩:=h1
  exact (hS k K hK).2.1 o o' b h1 h2.2
 ·obtain ⟨⟨K,hK,hlt⟩,h1⟩:=hb
  exact ⟨K,hK,hlt,(hS k K hK).2.2 o b h1⟩
structure Args (cx:Cx) (I:Nat->Prop) (B:Nat->Nat×Nat) (F:Nat->FP) (NN:Nat->Nat->FP) (σ:St) (a:Act) (w:World) (args:Array Value) (ins:L) (lent:List Nat) (bxs:List (Nat×Nat)) (U1:Nat->Nat->Value) (B1:Nat->Nat×Nat) (G:Nat->FP):Prop where
 kr:∀ j K,mk ins j=some K->j<args.size/\KR cx.P w (fun b=>I b∨∃ k∈lent,F k b) (mk ins) U1 B1 j K (args.getD j undef) (G j)
 dis:∀ j j' b,G j b->G j' b->j=j'
 src:∀ j b,G j b->F cx.n b∨∃ k,(j,k)∈bxs/\F k b/\∀ K1,mk ins j=some K1->∀ o,K1.cells.length<=o->¬ NN k o b
 lent:∀ k∈lent,k<cx.n/\∀ j,(j,k) ∉ bxs
 box:∀ j k,(j,k)∈bxs->∃ K K1,σ k=some K/\K.sh=.box/\mk ins j=some K1/\K1.sh=.box/\K1.cells.length<=K.cells.length/\B1 j=B k/\args.getD j undef=a.tmps.getD k undef/\j<args.size
 inj:∀ j j' k,(j,k)∈bxs->(j',k)∈bxs->j=j'
 fn:∀ j k k',(j,k)∈bxs->(j,k')∈bxs->k=k'
section
variable {cx:Cx} {I:Nat->Prop} {U:Nat->Nat->Value} {B:Nat->Nat×Nat} {F:Nat->FP} {NN:Nat->Nat->FP} {σ:St} {a:Act} {w:World}
def mayW (cx:Cx) (B:Nat->Nat×Nat) (F:Nat->FP) (NN:Nat->Nat->FP) (ins:L) (bxs:List (Nat×Nat)):CP:=fun b q =>
 F cx.n b∨∃ j k K1,(j,k)∈bxs/\mk ins j=some K1/\F k b/\(∀ o,K1.cells.length<=o->¬ NN k o b)/\(b=(B k).1->(B k).2<=q/\q<(B k).2+K1.cells.length)
theorem mayW_src {ins:L} {bxs:List (Nat×Nat)} {b q:Nat} (h:mayW cx B F NN ins bxs b q):F cx.n b∨∃ j k,(j,k)∈bxs/\F k b:=by
 rcases h with h | ⟨j,k,K,h1,_,h2,_⟩
 ·exact .inl h
 ·exact .inr ⟨j,k,h1,h2⟩
theorem mayW_out (h:RelW cx I U B F σ a w) (hD:∀ b,F cx.n b->cx.w0.heap.size<=b∨∀ q,cx.F0 b q) {args:Array Value} {ins:L} {lent:List Nat} {bxs:List (Nat×Nat)} {U1:Nat->Nat->Value} {B1:Nat->Nat×Nat} {G:Nat->FP} (hA:Args cx I B F NN σ a w args ins lent bxs U1 B1 G) {b q:Nat} (hm:mayW cx B F NN ins bxs b q):cx.w0.heap.size<=b∨cx.F0 b q:=by
 rcases hm with h1 | ⟨j,k,K1,h1,h2,h3,_,h4⟩
 ·exact (hD b h1).imp id (fun h=>h q)
 ·obtain ⟨K,K1',e1,e2,e3,e4,e5,_⟩:=hA.box j k h1
  rw [h2] at e3;cases e3
  rcases h.may k b h3 with h5 | h5 | ⟨K',h5,h6,h7⟩
  ·exact .inl h5
  ·exact .inr (h5 q)
  ·rw [e1] at h5;cases h5
   obtain ⟨m1,m2⟩:=h4 h6.2
   exact .inr (h7 q m1 (by omega))
theorem args_entry (h:RelW cx I U B F σ a w) {args:Array Value} {ins:L} {lent:List Nat} {bxs:List (Nat×Nat)} {U1:Nat->Nat->Value} {B1:Nat->Nat×Nat} {G:Nat->FP} (hA:Args cx I B F NN σ a w args ins lent bxs U1 B1 G) :
  Rel ⟨cx.P,args.size,w,mayW cx B F NN ins bxs,fun b=>I b∨∃ k∈lent,F k b,[],#[]⟩ (mk ins) ⟨args,[]⟩ w:=by
 have hsrc:∀ j b,G j b->b<w.heap.size/\¬ (I b∨∃ k∈lent,F k b):=by
  intro j b hb
  rcases hA.src j b hb with h1 | ⟨k,h1,h2,_⟩
  ·refine ⟨(h.own _ _ h1).1,fun hi=>hi.elim (h.own _ _ h1).2 (fun ⟨k,hk,hF⟩=>?_)⟩
   have:=h.dis _ _ _ hF h1
   exact absurd (hA.lent k hk).1 (by omega)
  ·refine ⟨(h.own _ _ h2).1,fun hi=>hi.elim (h.own _ _ h2).2 (fun ⟨k',hk,hF⟩=>?_)⟩
   have:=h.dis _ _ _ hF h2
   subst this
   exact (hA.lent k' hk).2 j h1
 refine ⟨_,U1,B1,G,rfl,rfl,fun j K hK=>hA.kr j K hK,hA.dis,hsrc,fun j b hb=>?_,fun b hb=>?_,fun b hb=>hb,fun b hb=>.inl hb,Fr.refl _ _⟩
 ·rcases hA.src j b hb with h1 | ⟨k,h1,h2,h3⟩
  ·exact .inr (.inl fun q=>.inl h1)
  ·obtain ⟨K,K1,e1,e2,e3,e4,e5,e6,_⟩:=hA.box j k h1
   by_cases hr:b=(B k).1
   ·refine .inr (.inr ⟨K1,e3,⟨e4,by rw [e6];exact hr⟩,fun q q1 q2=>.inr ⟨j,k,K1,h1,e3,h2,h3 K1 e3,fun _=>?_⟩⟩)
    rw [e6] at q1 q2
    exact ⟨q1,q2⟩
   ·exact .inr (.inl fun q=>.inr ⟨j,k,K1,h1,e3,h2,h3 K1 e3,fun hr'=>absurd hr' hr⟩)
 ·rcases hb with hb | ⟨k,_,hb⟩
  ·exact h.ro b hb
  ·exact (h.own _ _ hb).1
theorem args_exit (h:RelW cx I U B F σ a w) (hNN:Split cx I U B F σ w NN) (hD:∀ b,F cx.n b->cx.w0.heap.size<=b∨∀ q,cx.F0 b q) {args:Array Value} {ins:L} {lent:List Nat} {bxs:List (Nat×Nat)} {U1:Nat->Nat->Value} {B1:Nat->Nat×Nat} {G:Nat->FP} (hA:Args cx I B F NN σ a w args ins lent bxs U1 B1 G)
  {d:Nat} (hd:d<cx.n) (hdb:∀ j,(j,d) ∉ bxs) {bx:List Nat} {l:L} {v:Value} {w':World}
  (hr:Rel ⟨cx.P,args.size+1,w,mayW cx B F NN ins bxs,fun b=>I b∨∃ k∈lent,F k b,bx,args⟩ (mk l) ⟨args.push v,[]⟩ w') {Kr:Ky} (hKr:mk l args.size=some Kr) (hKc:Kr.cells.all isC=true) (hKn:lent≠[]->noShL Kr.cells)
  (hbx:∀ j k,(j,k)∈bxs->∃ cells lg K1,mk l j=some ⟨.box,cells,lg⟩/\cells.all isC=true/\(lent≠[]->noShL cells)/\mk ins j=some K1/\cells.length=K1.cells.length) {σ':St}
  (hσd:σ' d=some ⟨Kr.sh,Kr.cells,logAt σ d⟩) (hσk:∀ j k K cells lg,(j,k)∈bxs->σ k=some K->mk l j=some ⟨.box,cells,lg⟩->σ' k=some ⟨.box,cells++K.cells.drop cells.length,K.log++marks cells.length⟩)
  (hσo:∀ t,t≠d->(∀ j,(j,t) ∉ bxs)->σ' t=σ t):Rel cx σ' (a.put (some d) v) w':=by
 obtain ⟨I',U',B',F',r⟩:=hr
 have hsz:d<a.tmps.size:=by rw [h.size];exact hd
 have hdn:d≠cx.n:=Nat.ne_of_lt hd
 have klt:∀ j k,(j,k)∈bxs->k<cx.n:=fun j k hk=>by
  obtain ⟨K,_,e1,_⟩:=hA.box j k hk
  exact (h.key k K e1).1
 have hix:∃ ix:Nat->Nat,∀ j k,(j,k)∈bxs->ix k=j:=by
  refine ⟨fun k=>Classical.epsilon fun j=>(j,k)∈bxs,fun j k hk=>hA.inj _ _ _ (Classical.epsilon_spec (p:=fun j=>(j,k)∈bxs) ⟨j,hk⟩) hk⟩
 obtain ⟨ix,hix⟩:=hix
 let cl:Nat->Nat:=fun t=>match mk l (ix t) with
  | some K=>K.cells.length
  | none=>0
 have hcl:∀ {j k cells lg},(j,k)∈bxs->mk l j=some ⟨.box,cells,lg⟩->cl k=cells.length:=fun {j k cells lg} hk hc=>by
  simp only [cl,hix j k hk,hc]
 have wsrc:∀ {b q},mayW cx B F NN ins bxs b q->(F cx.n b∨∃ j k,(j,k)∈bxs/\F k b):=fun hm=>mayW_src hm
 have wold:∀ {b q},mayW cx B F NN ins bxs b q->b<w.heap.size:=fun hm=>by
  rcases wsrc hm with h1 | ⟨j,k,_,h1⟩<;>exact (h.own _ _ h1).1
 have hF':∀ t b,F' t b->w.heap.size<=b∨∃ q,mayW cx B F NN ins bxs b q:=by
  intro t b hb
  rcases r.may t b hb with h1 | h1 | ⟨K,h1,h2,h3⟩
  ·exact .inl h1
  ·exact .inr ⟨0,h1 0⟩
  ·have hlen:0<K.cells.length:=by
    have:=(r.key t K h1).2.root.2
    rw [h2.1] at this
    exact this.1
   exact .inr ⟨_,h3 (B' t).2 (Nat.le_refl _) (by omega)⟩
 have hgrow:w.heap.size<=w'.heap.size:=r.fr.size
 let X:Nat->FP:=fun t b=>∃ o,cl t<=o/\NN t o b
 have hXF:∀ {t b},X t b->b<w.heap.size/\¬ I b/\F t b/\∀ K,σ t=some K->¬ rootFP K (B t) b:=fun {t b} ⟨o,_,hb⟩=>by
  obtain ⟨K,h1,_,h3,h4⟩:=hNN.sub t o b hb
  exact ⟨(h.own _ _ h3).1,(h.own _ _ h3).2,h3,fun K' hK'=>by rw [h1] at hK';cases hK';exact h4⟩
 have hXW:∀ {j t b},(j,t)∈bxs->X t b->∀ q,¬ mayW cx B F NN ins bxs b q:=fun {j t b} hj hx q hm=>by
  obtain ⟨h1,h2,h3,_⟩:=hXF hx
  obtain ⟨o,ho,hb⟩:=hx
  rcases hm with h4 | ⟨j',k',K1,h4,h5,h6,h7,_⟩
  ·have:=h.dis _ _ _ h3 h4;have:=klt j t hj;omega
  ·have:=h.dis _ _ _ h3 h6
   subst this
   have:=hA.inj _ _ _ hj h4
   subst this
   obtain ⟨cells,lg,K1',c1,_,_,c4,c5⟩:=hbx j t hj
   rw [h5] at c4;cases c4
   exact h7 o (by rw [<- c5,<- hcl hj c1];exact ho) hb
 have hXh:∀ {j t b},(j,t)∈bxs->X t b->w'.heap[b]?=w.heap[b]?:=fun hj hx=>r.fr.block _ (hXF hx).1 (hXW hj hx)
 have hXn:∀ {j t s b},(j,t)∈bxs->X t b->F' s b->False:=fun hj hx hb=>by
  rcases hF' _ _ hb with h1 | ⟨q,h1⟩
  ·have:=(hXF hx).1;omega
  ·exact hXW hj hx q h1
 let M:Nat->Prop:=fun t=>t=d∨t=cx.n∨∃ j,(j,t)∈bxs
 have hnotM:∀ {t b},¬ M t->F t b->b<w.heap.size/\¬ F cx.n b/\∀ j k,(j,k)∈bxs->¬ F k b:=fun {t b} hM hb =>
  ⟨(h.own _ _ hb).1,fun hn=>hM (.inr (.inl (h.dis _ _ _ hb hn))),fun j k hk hn=>hM (.inr (.inr ⟨j,h.dis _ _ _ hb hn▸hk⟩))⟩
 have hfarW:∀ {b},b<w.heap.size->¬ F cx.n b->(∀ j k,(j,k)∈bxs->¬ F k b)->w'.heap[b]?=w.heap[b]?:=fun hb h1 h2 =>
  r.fr.block _ hb (fun q hm=>(wsrc hm).elim h1 (fun ⟨j,k,h3,h4⟩=>h2 j k h3 h4))
 have hIh:∀ {b},I b->w'.heap[b]?=w.heap[b]?:=fun {b} hb=>hfarW (h.ro b hb) (fun hn=>(h.own _ _ hn).2 hb) (fun j k _ hn=>(h.own _ _ hn).2 hb)
 let I'':Nat->Prop:=fun b=>I' b/\¬ ∃ k∈lent,F k b
 let bs:Nat->Prop:=fun t=>∃ j,(j,t)∈bxs
 let U'':Nat->Nat->Value:=fun t=>if t=d then U' args.size else if t=cx.n then U t else @ite _ (bs t) (Classical.propDecidable _) (fun o=>if o<cl t then U' (ix t) o else U t o) (U t)
 let B'':Nat->Nat×Nat:=fun t=>if t=d then B' args.size else if t=cx.n then B t else @ite _ (bs t) (Classical.propDecidable _) (B' (ix t)) (B t)
 let F'':Nat->FP:=fun t=>if t=d then F' args.size else if t=cx.n then FP.none else @ite _ (bs t) (Classical.propDecidable _) (fun b=>F' (ix t) b∨X t b) (F t)
 have hbsd:∀ {t},bs t->t≠d/\t≠cx.n:=fun {t} ⟨j,hj⟩=>⟨fun e=>hdb j (e▸hj),Nat.ne_of_lt (klt j t hj)⟩
 have onD:U'' d=U' args.size/\B'' d=B' args.size/\F'' d=F' args.size:=⟨by simp [U''],by simp [B''],by simp [F'']⟩
 have onB:∀ {j k},(j,k)∈bxs->(U'' k=fun o=>if o<cl k then U' j o else U k o)/\B'' k=B' j/\(F'' k=fun b=>F' j b∨X k b):=fun {j k} hk=>by
  have hb:bs k:=⟨j,hk⟩
  obtain ⟨e1,e2⟩:=hbsd hb
  refine ⟨?_,?_,?_⟩<;>simp [U'',B'',F'',e1,e2,hb,hix j k hk]
 have onO:∀ {t},¬ M t->U'' t=U t/\B'' t=B t/\F'' t=F t:=fun {t} hM=>by
  have e1:t≠d:=fun e=>hM (.inl e)
  have e2:t≠cx.n:=fun e=>hM (.inr (.inl e))
  have e3:¬ bs t:=fun e=>hM (.inr (.inr e))
  refine ⟨?_,?_,?_⟩<;>simp [U'',B'',F'',e1,e2,e3]
 have onN:F'' cx.n=FP.none:=by simp [F'',Ne.symm hdn]
 have hBk:∀ {j k},(j,k)∈bxs->B' j=B k:=fun {j k} hk=>by
  obtain ⟨K,K1,e1,e2,e3,e4,e5,e6,e7,e8⟩:=hA.box j k hk
  obtain ⟨cells,lg,_,c1,_⟩:=hbx j k hk
  have h1:=(h.key k K e1).2.root.2
  have h2:=(r.key j _ c1).2.root.2
  simp only [e2] at h1
  simp only at h2
  have h3:=h2.2.1
  simp only [Array.getD_eq_getD_getElem?,Array.getElem?_push_lt e8,Option.getD_some] at h3
  have h4:=e7
  rw [Array.getD_eq_getD_getElem?,Array.getElem?_eq_getElem e8,Option.getD_some] at h4
  rw [h4,h1.2.1] at h3
  injection h3 with h3;injection h3 with h3;injection h3 with h5 h6
  exact Prod.ext h5.symm h6.symm
 have hall:∀ {b},(∀ q,mayW cx B F NN ins bxs b q)->cx.w0.heap.size<=b∨∀ q,cx.F0 b q:=fun {b} hq=>by
  rcases Nat.lt_or_ge b cx.w0.heap.size with h1 | h1
  ·exact .inr fun q=>(mayW_out h hD hA (hq q)).resolve_left (by omega)
  ·exact .inl h1
 have hw0:cx.w0.heap.size<=w.heap.size:=h.fr.size
 have hI1:∀ b,I b->I'' b:=fun b hb=>⟨r.ro0 b (.inl hb),fun ⟨k,_,hF⟩=>(h.own _ _ hF).2 hb⟩
 have hXI:∀ {j t b},(j,t)∈bxs->X t b->¬ I'' b:=fun {j t b} hj hx ⟨hi,hl⟩=>by
  rcases r.roN b hi with (h3 | h3) | h3 | h3
  ·exact (hXF hx).2.1 h3
  ·exact hl h3
  ·have:=(hXF hx).1;simp only at h3;omega
  ·exact hXW hj hx 0 (h3 0)
 have turnI:∀ {cells:List SC},(lent≠[]->noShL cells)->∀ (o:Nat) y (v:Value) (N:FP),cells[o]?=some (.c y)->Rep cx.P w' I' y v N->Rep cx.P w' I'' y v N:=by
  intro cells hns o y v N hy hr
  by_cases hl:lent=[]
  ·have:I''=I':=by
    funext b
    simp only [I'',hl,List.not_mem_nil,false_and,exists_const,not_false_eq_true,and_true]
   rw [this];exact hr
  ·exact noSh_rep hr (fun b hb=>hb.1) (by simpa [noShC] using noShL_all _ (hns hl) _ (List.mem_of_getElem? hy))
 have hInew:∀ b,I'' b->I b∨((∀ t,¬ M t->¬ F t b)/\(cx.w0.heap.size<=b∨∀ q,cx.F0 b q)):=fun b ⟨h1,h2⟩=>by
  rcases r.roN b h1 with (h3 | h3) | h3 | h3
  ·exact .inl h3
  ·exact absurd h3 h2
  ·refine .inr ⟨fun t _ hF=>?_,.inl (Nat.le_trans hw0 h3)⟩
   have h4:=(h.own _ _ hF).1
   exact absurd (Nat.lt_of_lt_of_le h4 h3) (Nat.lt_irrefl _)
  ·refine .inr ⟨fun t ht hF=>?_,hall h3⟩
   obtain ⟨_,m1,m2⟩:=hnotM ht hF
   exact (wsrc (h3 0)).elim m1 (fun ⟨j,k,h4,h5⟩=>m2 j k h4 h5)
 have presM:∀ t K,M t->σ t=some K->∃ K',σ' t=some K'/\Pres cx.P w w' K K' (U t) (U'' t) (B t) (B'' t):=fun t K ht hK=>by
  rcases ht with rfl | rfl | ⟨j,hj⟩
  ·exact ⟨_,hσd,Pres.anew (by simp [logAt,hK])⟩
  ·exact absurd (h.key _ K hK).1 (Nat.lt_irrefl _)
  ·obtain ⟨K0,K1,e1,e2,e3,e4,e5,e6,e7,e8⟩:=hA.box j t hj
   obtain ⟨cells,lg,K1',c1,c2,c3,c4,c5⟩:=hbx j t hj
   obtain rfl:K0=K:=Option.some.inj (e1.symm.trans hK)
   refine ⟨_,hσk j t K0 cells lg hj e1 c1,?_⟩
   have hc:=hcl hj c1
   refine ⟨by simp,fun n o p hn hs=>?_,fun n hn hg=>⟨by rwa [gone_marks hn] at hg,fun _=>e2,by rw [(onB hj).2.1,hBk hj]⟩⟩
   obtain ⟨h1,h2⟩:=stale_marks hn hs
   refine ⟨h1,fun x' y' hx hy=>?_⟩
   simp only at hx
   rw [List.getElem?_append_right h2,List.getElem?_drop,show cells.length+(o-cells.length)=o by omega] at hx
   refine ⟨x',y',hx,hy,?_,fun e es he=>⟨es,he⟩⟩
   rw [(onB hj).1]
   simp only [hc,if_neg (Nat.not_lt.2 h2)]
   exact conc_same (hNN.rep t K0 hK o _ hx) hy (fun b hb=>hXh hj ⟨o,by rw [hc];exact h2,hb⟩)
 have presAll:∀ t K,σ t=some K->∃ K',σ' t=some K'/\Pres cx.P w w' K K' (U t) (U'' t) (B t) (B'' t):=fun t K hK=>by
  by_cases hM:M t
  ·exact presM t K hM hK
  ·refine ⟨K,(hσo t (fun e=>hM (.inl e)) (fun j hj=>hM (.inr (.inr ⟨j,hj⟩)))).trans hK,?_⟩
   rw [(onO hM).1,(onO hM).2.1]
   exact h.same hK (fun b hb=>by obtain ⟨m0,m1,m2⟩:=hnotM hM hb;exact hfarW m0 m1 m2)
 refine ⟨I'',U'',B'',F'',h.step M (by rw [size_put];exact h.size) (by rw [defers_put];exact h.defers) (fun t ht=>hσo t (fun e=>ht (.inl e)) (fun j hj=>ht (.inr (.inr ⟨j,hj⟩)))) (fun t ht=>?_) (fun t ht=>onO ht) hI1 hInew (fun b hb=>?_)
  (fun t K ht hK=>?_) presM (fun t t' b h1 h2=>?_) (fun t b hb=>?_) (fun t b ht hb=>?_) (fun b hb=>r.ro b hb.1) ?_⟩
 ·rw [getD_put _ _ _ _ hsz,if_neg (fun e=>ht (.inl e))]
 ·rcases hb with hb | ⟨t,ht,hb⟩
  ·exact hIh hb
  ·obtain ⟨m0,m1,m2⟩:=hnotM ht hb
   exact hfarW m0 m1 m2
 ·rcases ht with rfl | rfl | ⟨j,hj⟩
  ·rw [hσd] at hK;cases hK
   obtain ⟨_,hkr⟩:=r.key _ _ hKr
   refine ⟨hd,?_⟩
   rw [getD_put _ _ _ _ hsz,if_pos rfl,onD.2.2]
   have hv:(args.push v).getD args.size undef=v:=by simp [Array.getD_eq_getD_getElem?]
   simp only [hv] at hkr
   exact hkr.turn rfl rfl onD.1 onD.2.1 hKc (turnI hKn)
  ·have hb:¬ ∃ j,(j,cx.n)∈bxs:=fun ⟨j,hj⟩=>(Nat.lt_irrefl _ (klt j _ hj))
   rw [hσo _ (Ne.symm hdn) (fun j hj=>hb ⟨j,hj⟩)] at hK
   exact absurd (h.key _ K hK).1 (Nat.lt_irrefl _)
  ·obtain ⟨K0,K1,e1,e2,e3,e4,e5,e6,e7,e8⟩:=hA.box j t hj
   obtain ⟨cells,lg,K1',c1,c2,c3,c4,c5⟩:=hbx j t hj
   rw [e3] at c4;cases c4
   rw [hσk j t K0 cells lg hj e1 c1] at hK;cases hK
   have hc:=hcl hj c1
   obtain ⟨_,hkr⟩:=r.key _ _ c1
   obtain ⟨htn,hroot0,_,hrf0⟩:=h.key t K0 e1
   refine ⟨klt j t hj,?_⟩
   rw [getD_put _ _ _ _ hsz,if_neg (hbsd ⟨j,hj⟩).1,(onB hj).2.2,<- e7]
   have hv:(args.push v).getD j undef=args.getD j undef:=by
    simp only [Array.getD_eq_getD_getElem?,Array.getElem?_push_lt e8,Array.getElem?_eq_getElem e8]
   simp only [hv] at hkr
   obtain ⟨k1,⟨N2,m1,m2,m3⟩,k4⟩:=hkr
   obtain ⟨s1,s2,s3,cur',e',s4,s5⟩:=k1
   simp only at s1 s2 s4 s5
   have hr2:=hroot0.2
   simp only [e2] at hr2
   obtain ⟨r2,r3,cur,e,r4,r5⟩:=hr2
   have hlen:cells.length<=K0.cells.length:=by omega
   have hlen2:(cells++K0.cells.drop cells.length).length=K0.cells.length:=by simp;omega
   have hrootF:F t (B t).1:=hrf0 _ ⟨e2,rfl⟩
   have hcell:∀ o,cells.length<=o->o<K0.cells.length->cur'[(B t).2+o]?=some (U t o):=fun o o1 o2=>by
    have hnm:¬ mayW cx B F NN ins bxs (B t).1 ((B t).2+o):=fun hm=>by
     rcases hm with h4 | ⟨j',k',K1',h4,h5,h6,h7,h8⟩
     ·have:=h.dis _ _ _ hrootF h4;omega
     ·have:=h.dis _ _ _ hrootF h6
      subst this
      have:=hA.inj _ _ _ hj h4
      subst this
      rw [e3] at h5;cases h5
      have:=(h8 rfl).2
      omega
    obtain ⟨cs',t1,t2⟩:=r.fr.part (B t).1 cur e (0,0) (fun hq=>hnm (hq _)) r4
    rw [hBk hj] at s4
    rw [t1] at s4
    injection s4 with s4;injection s4 with s4
    subst s4
    rw [t2 _ hnm]
    exact r5 o o2
   refine ⟨⟨fun o ho=>?_,by simp only [List.length_append];omega,by rw [(onB hj).2.1];exact s3,cur',e',by rw [(onB hj).2.1];exact s4,fun o ho=>?_⟩,⟨fun o=>if o<cells.length then N2 o else NN t o,fun o x hx=>?_,fun o o' b h1 h2=>?_,fun o b hb=>?_⟩,fun b hb=>?_⟩
   ·rw [(onB hj).1]
    simp only [hc]
    split
    ·rename_i ho2;exact s1 o ho2
    ·exact hroot0.1 o (by simp only at ho;omega)
   ·rw [(onB hj).1,(onB hj).2.1]
    simp only [hc]
    split
    ·rename_i ho2;exact s5 o ho2
    ·rename_i ho2
     rw [hBk hj]
     exact hcell o (by omega) (by simp only at ho;omega)
   ·rw [(onB hj).1]
    simp only [hc]
    by_cases ho:o<cells.length
    ·simp only [ho,if_true]
     simp only at hx
     rw [List.getElem?_append_left ho] at hx
     exact isC_rep (List.all_eq_true.1 c2 x (List.mem_of_getElem? hx)) (m1 o x hx) (fun y hy hr=>turnI c3 o y _ _ (hy▸hx) hr)
    ·simp only [ho,if_false]
     simp only at hx
     rw [List.getElem?_append_right (by omega),List.getElem?_drop,show cells.length+(o-cells.length)=o by omega] at hx
     have hX:∀ b,NN t o b->X t b:=fun b hb=>⟨o,by rw [hc];omega,hb⟩
     exact (hNN.rep t K0 e1 o x hx).frame (fun b hb=>hb.elim hIh (fun hb=>hXh hj (hX b hb))) hI1 (fun b hb=>by
      by_cases hn:NN t o b
      ·exact absurd hb (hXI hj (hX b hn))
      ·exact .inr hn) presAll
   ·have h1:(if o<cells.length then N2 o else NN t o) b:=h1
    have h2:(if o'<cells.length then N2 o' else NN t o') b:=h2
    split at h1<;>split at h2
    ·exact m2 _ _ _ h1 h2
    ·exact (hXn hj ⟨o',by rw [hc];omega,h2⟩ (m3 _ _ h1).1).elim
    ·exact (hXn hj ⟨o,by rw [hc];omega,h1⟩ (m3 _ _ h2).1).elim
    ·exact hNN.dis t _ _ _ h1 h2
   ·have hb:(if o<cells.length then N2 o else NN t o) b:=hb
    rw [(onB hj).2.1]
    split at hb
    ·obtain ⟨a1,a2⟩:=m3 o b hb
     exact ⟨.inl a1,fun hr=>a2 hr⟩
    ·have hx:X t b:=⟨o,by rw [hc];omega,hb⟩
     refine ⟨.inr hx,fun hr=>(hXF hx).2.2.2 K0 e1 ⟨e2,?_⟩⟩
     have:=hr.2
     rwa [hBk hj] at this
   ·rw [(onB hj).2.1] at hb
    exact .inl (k4 b hb)
 ·
  have cross:∀ {t b s},¬ M t->F t b->F' s b->False:=fun {t b s} hM h1 h2=>by
   obtain ⟨m0,m1,m2⟩:=hnotM hM h1
   rcases hF' s b h2 with h3 | ⟨q,h3⟩
   ·omega
   ·rcases wsrc h3 with h3 | ⟨j,k,h3,h4⟩
    ·exact m1 h3
    ·exact m2 j k h3 h4
  have which:∀ t,F'' t b->(t=d/\F' args.size b)∨(∃ j,(j,t)∈bxs/\F' j b)∨(∃ j,(j,t)∈bxs/\X t b)∨(¬ M t/\F t b):=fun t ht=>by
   by_cases e1:t=d
   ·subst e1;rw [onD.2.2] at ht;exact .inl ⟨rfl,ht⟩
   ·by_cases e2:t=cx.n
    ·subst e2;rw [onN] at ht;exact ht.elim
    ·by_cases e3:∃ j,(j,t)∈bxs
     ·obtain ⟨j,hj⟩:=e3
      rw [(onB hj).2.2] at ht
      rcases ht with ht | ht
      ·exact .inr (.inl ⟨j,hj,ht⟩)
      ·exact .inr (.inr (.inl ⟨j,hj,ht⟩))
     ·have hM:¬ M t:=fun hm=>hm.elim e1 (fun h=>h.elim e2 e3)
      rw [(onO hM).2.2] at ht
      exact .inr (.inr (.inr ⟨hM,ht⟩))
  rcases which t h1 with ⟨rfl,g1⟩ | ⟨j,hj,g1⟩ | ⟨j,hj,g1⟩ | ⟨hM,g1⟩<;>rcases which t' h2 with ⟨rfl,g2⟩ | ⟨j',hj',g2⟩ | ⟨j',hj',g2⟩ | ⟨hM',g2⟩
  ·rfl
  ·have:=r.dis _ _ _ g1 g2
   obtain ⟨_,_,_,_,_,_,_,_,_,e8⟩:=hA.box j' t' hj'
   omega
  ·exact (hXn hj' g2 g1).elim
  ·exact (cross hM' g2 g1).elim
  ·have:=r.dis _ _ _ g1 g2
   obtain ⟨_,_,_,_,_,_,_,_,_,e8⟩:=hA.box j t hj
   omega
  ·have:=r.dis _ _ _ g1 g2
   subst this
   exact hA.fn _ _ _ hj hj'
  ·exact (hXn hj' g2 g1).elim
  ·exact (cross hM' g2 g1).elim
  ·exact (hXn hj g1 g2).elim
  ·exact (hXn hj g1 g2).elim
  ·exact h.dis _ _ _ (hXF g1).2.2.1 (hXF g2).2.2.1
  ·exact h.dis _ _ _ (hXF g1).2.2.1 g2
  ·exact (cross hM g1 g2).elim
  ·exact (cross hM g1 g2).elim
  ·exact h.dis _ _ _ g1 (hXF g2).2.2.1
  ·exact h.dis _ _ _ g1 g2
 ·by_cases e1:t=d
  ·subst e1;rw [onD.2.2] at hb
   exact ⟨(r.own _ _ hb).1,fun hi=>(r.own _ _ hb).2 hi.1⟩
  ·by_cases e2:t=cx.n
   ·subst e2;rw [onN] at hb;exact hb.elim
   ·by_cases e3:∃ j,(j,t)∈bxs
    ·obtain ⟨j,hj⟩:=e3
     rw [(onB hj).2.2] at hb
     rcases hb with hb | hb
     ·exact ⟨(r.own _ _ hb).1,fun hi=>(r.own _ _ hb).2 hi.1⟩
     ·exact ⟨Nat.lt_of_lt_of_le (hXF hb).1 hgrow,hXI hj hb⟩
    ·have hM:¬ M t:=fun hm=>hm.elim e1 (fun h=>h.elim e2 e3)
     rw [(onO hM).2.2] at hb
     obtain ⟨m0,m1,m2⟩:=hnotM hM hb
     refine ⟨Nat.lt_of_lt_of_le m0 hgrow,fun ⟨hi,hl⟩=>?_⟩
     rcases r.roN b hi with (h3 | h3) | h3 | h3
     ·exact (h.own _ _ hb).2 h3
     ·exact hl h3
     ·simp only at h3;omega
     ·exact (wsrc (h3 0)).elim m1 (fun ⟨j,k,h4,h5⟩=>m2 j k h4 h5)
 ·rcases ht with rfl | rfl | ⟨j,hj⟩
  ·rw [onD.2.2] at hb
   rcases r.may _ b hb with h1 | h1 | ⟨K,h1,h2,h3⟩
   ·exact .inl (Nat.le_trans hw0 h1)
   ·exact (hall h1).imp id .inl
   ·rw [hKr] at h1;cases h1
    rcases Nat.lt_or_ge b cx.w0.heap.size with h4 | h4
    ·exact .inr (.inr ⟨_,hσd,by rw [onD.2.1];exact h2,fun q q1 q2=>by
      rw [onD.2.1] at q1 q2
      exact (mayW_out h hD hA (h3 q q1 q2)).resolve_left (by omega)⟩)
    ·exact .inl h4
  ·rw [onN] at hb;exact hb.elim
  ·rw [(onB hj).2.2] at hb
   obtain ⟨K0,K1,e1,e2,e3,e4,e5,e6,e7,e8⟩:=hA.box j t hj
   obtain ⟨cells,lg,K1',c1,c2,c3,c4,c5⟩:=hbx j t hj
   rw [e3] at c4;cases c4
   obtain ⟨_,_,_,hrf0⟩:=h.key t K0 e1
   have root:b=(B t).1->cx.w0.heap.size<=b∨(∀ q,cx.F0 b q)∨∃ K,σ' t=some K/\rootFP K (B'' t) b/\∀ q,(B'' t).2<=q->q<(B'' t).2+K.cells.length->cx.F0 b q:=fun hbr=>by
    subst hbr
    rcases h.may t _ (hrf0 _ ⟨e2,rfl⟩) with h1 | h1 | ⟨K,h1,h2,h3⟩
    ·exact .inl h1
    ·exact .inr (.inl h1)
    ·rw [e1] at h1;cases h1
     refine .inr (.inr ⟨_,hσk j t K0 cells lg hj e1 c1,⟨rfl,by rw [(onB hj).2.1,hBk hj]⟩,fun q q1 q2=>?_⟩)
     rw [(onB hj).2.1,hBk hj] at q1 q2
     exact h3 q q1 (by simp only [List.length_append,List.length_drop] at q2;omega)
   rcases hb with hb | hb
   ·rcases r.may _ b hb with h1 | h1 | ⟨K,h1,h2,h3⟩
    ·exact .inl (Nat.le_trans hw0 h1)
    ·exact (hall h1).imp id .inl
    ·exact root (by rw [<- hBk hj];exact h2.2)
   ·rcases h.may t b (hXF hb).2.2.1 with h1 | h1 | ⟨K,h1,h2,h3⟩
    ·exact .inl h1
    ·exact .inr (.inl h1)
    ·exact absurd h2 ((hXF hb).2.2.2 K h1)
 ·exact h.fr.trans r.fr (fun b q hm=>mayW_out h hD hA hm)
end
end Go.Proofs.AI
namespace Go.Proofs.AI
open Go.RowKit
set_option linter.unusedVariables false
set_option linter.unusedSimpArgs false
inductive Md where
 | give | lend | ptr | len
 | part (c:Nat)
def isVal:Sh->Bool
 | .one=>true
 | .agg=>true
 | _=>false
abbrev Given:=Option (Sh×List CV)
def passG (σ:St):List (Operand×Md)->Option (List Given×L)
 | []=>some ([],[])
 | (.tmp t,.give)::r=>match σ t with
  | some K=>if isVal K.sh then match grabs K.cells.length σ t 0 with
   | some (xs,o1)=>match passG (ups σ o1) r with
    | some (l,o2)=>some (some (K.sh,xs)::l,o1++o2)
    | none=>none
   | none=>none
   else none
  | none=>none
 | (_,_)::r=>match passG σ r with
  | some (l,o)=>some (none::l,o)
  | none=>none
section
variable {cx:Cx} {I:Nat->Prop} {U:Nat->Nat->Value} {B:Nat->Nat×Nat} {F:Nat->FP} {σ:St} {a:Act} {w:World}
structure Gave (cx:Cx) (I:Nat->Prop) (w:World) (a:Act) (D0 D:FP) (ps:List (Operand×Md)) (gs:List Given) (us:Nat->Nat->Value) (N:Nat->Nat->FP):Prop where
 len:gs.length=ps.length
 at_:∀ (j:Nat) x md sh xs,ps[j]?=some (x,md)->gs[j]?=some (some (sh,xs))->isVal sh=true/\RootAt w ⟨sh,xs.map SC.c,[]⟩ (a.eval x) (us j) (0,0)/\∀ (o:Nat) y,xs[o]?=some y->Rep cx.P w I y (us j o) (N j o)
 dis:∀ j o j' o' b,N j o b->N j' o' b->j=j'/\o=o'
 sub:∀ j o b,N j o b->D b/\¬ D0 b
 old:∀ b,D0 b->D b
 new:∀ b,D b->D0 b∨((∃ j o,N j o b)/\(cx.w0.heap.size<=b∨∀ q,cx.F0 b q))
theorem passG_ok:∀ (ps:List (Operand×Md)) {σ:St} {F:Nat->FP} {gs:List Given} {out:L},RelW cx I U B F σ a w->passG σ ps=some (gs,out) ->
  ∃ F' us N,RelW cx I U B F' (ups σ out) a w/\Gave cx I w a (F cx.n) (F' cx.n) ps gs us N:=by
 intro ps
 induction ps with
 | nil =>
  intro σ F gs out h hp
  simp only [passG] at hp
  injection hp with hp;injection hp with h1 h2;subst h1 h2
  exact ⟨F,fun _ _=>undef,fun _ _=>FP.none,h,rfl,fun j x md sh xs hj=>by simp at hj,fun _ _ _ _ _ h=>h.elim,fun _ _ _ h=>h.elim,fun _ h=>h,fun _ h=>.inl h⟩
 | cons p ps ih =>
  intro σ F gs out h hp
  have keep:∀ {gs':List Given} {out':L},passG σ ps=some (gs',out')->gs=none::gs'->out=out'->∃ F' us N,RelW cx I U B F' (ups σ out) a w/\Gave cx I w a (F cx.n) (F' cx.n) (p::ps) gs us N:=by
   intro gs' out' h1 h2 h3
   subst h2 h3
   obtain ⟨F',us,N,r,g⟩:=ih h h1
   refine ⟨F',fun j=>match j with | 0=>fun _=>undef | j+1=>us j,fun j=>match j with | 0=>fun _=>FP.none | j+1=>N j,r,by simp [g.len],fun j x md sh xs hj hg=>?_,fun j o j' o' b h1 h2=>?_,fun j o b hb=>?_,g.old,fun b hb=>?_⟩
   ·cases j with
    | zero=>simp at hg
    | succ j=>exact g.at_ j x md sh xs (by simpa using hj) (by simpa using hg)
   ·cases j<;>cases j'<;>first | exact h1.elim | exact h2.elim | (have:=g.dis _ _ _ _ _ h1 h2;omega)
   ·cases j with
    | zero=>exact hb.elim
    | succ j=>exact g.sub j o b hb
   ·exact (g.new b hb).imp id (fun ⟨⟨j,o,h1⟩,h2⟩=>⟨⟨j+1,o,h1⟩,h2⟩)
  unfold passG at hp
  split at hp
  ·cases ‹_::_=[]›
  ·rename_i t r heq
   injection heq with e1 e2;subst e1 e2
   split at hp
   ·rename_i K hK
    split at hp
    ·rename_i hv
     split at hp
     ·rename_i xs o1 hg
      split at hp
      ·rename_i l o2 hrest
       injection hp with hp;injection hp with h1 h2;subst h1 h2
       obtain ⟨F1,N1,hl,g1⟩:=grabs_ok _ h hg
       obtain ⟨F2,us,N,r2,g2⟩:=ih g1.rel hrest
       obtain ⟨_,hroot,_⟩:=h.key t K hK
       refine ⟨F2,fun j=>match j with | 0=>U t | j+1=>us j,fun j=>match j with | 0=>N1 | j+1=>N j,by rw [ups_append];exact r2,by simp [g2.len],fun j x md sh ys hj hgj=>?_,fun j o j' o' b h1 h2=>?_,fun j o b hb=>?_,fun b hb=>g2.old b (g1.old b hb),fun b hb=>?_⟩
       ·cases j with
        | zero =>
         simp at hj hgj
         obtain ⟨rfl,rfl⟩:=hj
         obtain ⟨rfl,rfl⟩:=hgj
         refine ⟨hv,⟨fun o ho=>hroot.1 o (by simpa [hl] using ho),?_⟩,fun o y hy=>by simpa using g1.rep o y hy⟩
         have h2:=hroot.2
         simp only [Act.eval]
         cases hs:K.sh with
         | one=>simp only [hs] at h2 ⊢;simpa [hl] using h2
         | agg=>simp only [hs] at h2 ⊢;simpa [hl] using h2
         | tup sig=>simp [hs,isVal] at hv
         | box=>simp [hs,isVal] at hv
        | succ j=>exact g2.at_ j x md sh ys (by simpa using hj) (by simpa using hgj)
       ·cases j<;>cases j'
        ·exact ⟨rfl,g1.dis _ _ _ h1 h2⟩
        ·exact absurd (g1.sub _ b h1).1 (g2.sub _ _ b h2).2
        ·exact absurd (g1.sub _ b h2).1 (g2.sub _ _ b h1).2
        ·have:=g2.dis _ _ _ _ _ h1 h2;omega
       ·cases j with
        | zero=>exact ⟨g2.old b (g1.sub o b hb).1,(g1.sub o b hb).2.1⟩
        | succ j=>exact ⟨(g2.sub j o b hb).1,fun hn=>(g2.sub j o b hb).2 (g1.old b hn)⟩
       ·rcases g2.new b hb with h1 | ⟨⟨j,o,h1⟩,h2⟩
        ·rcases g1.new b h1 with h3 | ⟨o,h3⟩
         ·exact .inl h3
         ·exact .inr ⟨⟨0,o,h3⟩,(g1.sub o b h3).2.2⟩
        ·exact .inr ⟨⟨j+1,o,h1⟩,h2⟩
      ·cases hp
     ·cases hp
    ·cases hp
   ·cases hp
  ·rename_i x md r hno heq
   injection heq with e1 e2;subst e1 e2
   split at hp
   ·rename_i l o hrest
    injection hp with hp;injection hp with h1 h2
    exact keep hrest h1.symm h2.symm
   ·cases hp
def CV.getF:CV->Way->Option CV
 | x,[]=>some x
 | .ow _ es,(k,o)::r=>match (es.f k)[o]? with
  | some y=>y.getF r
  | none=>none
 | _,_::_=>none
def wayOb:CV->Way->Prop
 | _,[]=>True
 | .ow _ es,[(k,_)]=>k<es.n
 | .ow _ es,(k,o)::r=>k<es.n/\match (es.f k)[o]? with
  | some y=>wayOb y r
  | none=>True
 | _,_::_=>True
theorem getF_eq:∀ {p:Way} {x:CV},wayOb x p->x.get p=x.getF p
 | [],x,_=>by simp [CV.get,CV.getF]
 | (k,o)::r,x,h=>by
  cases x<;>simp only [CV.get,CV.getF]
  rename_i e es
  have hk:k<es.n:=by
   cases r with
   | nil=>simpa [wayOb] using h
   | cons q r=>simp only [wayOb] at h;exact h.1
  simp only [row?,Rows.l_at,hk,if_true,Option.bind_some]
  cases hy:(es.f k)[o]? with
  | none=>rfl
  | some y =>
   simp only [Option.bind_some]
   refine getF_eq ?_
   cases r with
   | nil=>simp [wayOb]
   | cons q r=>simp only [wayOb,hy] at h;exact h.2
def rowsF (σ:St) (e:TypeId) (k o:Nat) (p:Way) (n:Nat):Option (TypeId×Rows CV):=match σ k with
 | some K=>if stale K.log n o p then none else match K.cells[o]? with
  | some (.c x)=>match x.getF p with
   | some (.ow e' es)=>if e=e' then some (e,es) else none
   | _=>none
  | _=>none
 | none=>none
def lendOb0 (σ:St):SC->Prop
 | .v _ k o p _ _=>match p with
  | []=>True
  | _::_=>match σ k with
   | some K=>match K.cells[o]? with
    | some (.c x)=>wayOb x p
    | _=>True
   | none=>False
 | .p e k o p n i _=>(match p with
  | []=>True
  | _::_=>match σ k with
   | some K=>match K.cells[o]? with
    | some (.c x)=>wayOb x p
    | _=>True
   | none=>False)/\match rowsF σ e k o p n with
  | some q=>i<q.2.n
  | none=>False
 | _=>True
def needOb:SC->Bool
 | .v _ _ _ (_::_) _ _=>true
 | .p _ _ _ _ _ _ _=>true
 | .fn _ _=>true
 | _=>false
def obL (g:SC->Prop):List SC->Prop
 | []=>True
 | x::r=>match needOb x with
  | true=>g x/\obL g r
  | false=>obL g r
def obK (g:SC->Prop) (σ:St):List (Nat×Nat)->Prop
 | []=>True
 | [q]=>match σ q.1 with
  | some K=>obL g K.cells
  | none=>False
 | q::r=>match σ q.1 with
  | some K=>obL g K.cells/\obK g σ r
  | none=>False
def lendObN (σ:St):Nat->SC->Prop
 | 0,x=>lendOb0 σ x
 | m+1,x=>match x with
  | .fn _ ks=>obK (lendObN σ m) σ ks
  | x=>lendOb0 σ x
def lendOb (σ:St) (x:SC):Prop:=lendObN σ 2 x
theorem lendOb0_no {σ:St} {x:SC} (h:needOb x=false):lendOb0 σ x:=by
 cases x with
 | v e k o p n r=>cases p<;>simp [needOb,lendOb0] at h ⊢
 | p e k o p n i j=>simp [needOb] at h
 | _=>trivial
theorem lendObN_no {σ:St} {m:Nat} {x:SC} (h:needOb x=false):lendObN σ m x:=by
 cases m with
 | zero=>exact lendOb0_no h
 | succ m =>
  cases x with
  | fn f ks=>simp [needOb] at h
  | _=>exact lendOb0_no (σ:=σ) h
theorem obL_all {g:SC->Prop} (hg:∀ x,needOb x=false->g x):∀ {l:List SC},obL g l->∀ x∈l,g x
 | [],_,x,hx=>by simp at hx
 | y::r,h,x,hx=>by
  simp only [obL] at h
  cases hn:needOb y with
  | true =>
   simp only [hn] at h
   rcases List.mem_cons.1 hx with rfl | hx
   ·exact h.1
   ·exact obL_all hg h.2 x hx
  | false =>
   simp only [hn] at h
   rcases List.mem_cons.1 hx with rfl | hx
   ·exact hg _ hn
   ·exact obL_all hg h x hx
theorem obK_all {g:SC->Prop} {σ:St}:∀ {l:List (Nat×Nat)},obK g σ l->∀ q∈l,∃ K,σ q.1=some K/\obL g K.cells
 | [],_,x,hx=>by simp at hx
 | [y],h,x,hx=>by
  simp only [obK] at h
  rcases List.mem_singleton.1 hx with rfl
  split at h
  ·rename_i K hK;exact ⟨K,hK,h⟩
  ·exact h.elim
 | y::z::r,h,x,hx=>by
  simp only [obK] at h
  split at h
  ·rename_i K hK
   rcases List.mem_cons.1 hx with rfl | hx
   ·exact ⟨K,hK,h.1⟩
   ·exact obK_all h.2 x hx
  ·exact h.elim
theorem rowsF_eq {e:TypeId} {k o n:Nat} {p:Way} {r:Option (Nat×Nat)} {q:TypeId×Rows CV} (h:rowsF σ e k o p n=some q) (hob:lendOb0 σ (.v e k o p n r)):rowsAt σ (.v e k o p n none)=some q:=by
 unfold rowsF at h
 simp only [rowsAt]
 cases hk:σ k with
 | none=>simp [hk] at h
 | some K =>
  simp only [hk] at h ⊢
  split at h
  ·cases h
  ·rename_i hst
   simp only [hst]
   cases hx:K.cells[o]? with
   | none=>simp [hx] at h
   | some y =>
    cases y with
    | c x =>
     simp only [hx] at h ⊢
     have:x.get p=x.getF p:=by
      cases p with
      | nil=>simp [CV.get,CV.getF]
      | cons q p=>simp only [lendOb0,hk,hx] at hob;exact getF_eq hob
     rw [this];exact h
    | _=>simp [hx] at h
def lend0 (σ:St):SC->CV
 | .c x=>frozen x
 | .v e k o p n r=>match rowsF σ e k o p n with
  | some (e',es)=>match r with
   | none=>.sh e (frozenRs es)
   | some (lo,hi)=>if lo<=hi/\hi<=es.n then .sh e (cutRows (frozenRs es) (some (lo,hi))) else .any
  | none=>.any
 | .p e k o p n i j=>match rowsF σ e k o p n with
  | some (_,es)=>.rp (((frozenRs es).f i).drop j)
  | none=>.any
 | _=>.any
def boxRow (g:SC->CV) (σ:St) (q:Nat×Nat):CV:=match σ q.1 with
 | some ⟨.box,cells,lg⟩=>match gone lg q.2 with
  | true=>.any
  | false=>.rp (cells.map g)
 | _=>.any
def lendN (σ:St):Nat->SC->CV
 | 0,x=>lend0 σ x
 | m+1,x=>match x with
  | .fn f ks=>.fn f (ks.map (boxRow (lendN σ m) σ))
  | x=>lend0 σ x
def lendC (σ:St) (x:SC):CV:=lendN σ 2 x
def lent0 (t:Nat):SC->List Nat
 | .c (.ow _ _)=>[t]
 | .v _ k _ _ _ _=>[k]
 | .p _ k _ _ _ _ _=>[k]
 | _=>[]
def lentN (σ:St):Nat->Nat->SC->List Nat
 | 0,t,x=>lent0 t x
 | m+1,t,x=>match x with
  | .fn _ ks=>ks.flatMap fun q=>q.1::(match σ q.1 with
   | some K=>K.cells.flatMap (lentN σ m q.1)
   | none=>[])
  | x=>lent0 t x
def lentC (σ:St) (t:Nat) (x:SC):List Nat:=lentN σ 2 t x
theorem lend0_rep (h:RelW cx I U B F σ a w) {t o:Nat} {K:Ky} (hK:σ t=some K) {x:SC} (hx:K.cells[o]?=some x) {I':Nat->Prop} (hI:∀ b,I b->I' b) (hl:∀ k∈lent0 t x,∀ b,F k b->I' b) (hob:lendOb0 σ x) (G:FP) :
  Rep cx.P w I' (lend0 σ x) (U t o) G:=by
 obtain ⟨_,_,⟨N,n1,n2,n3⟩,_⟩:=h.key t K hK
 have hr:=n1 o x hx
 have one:∀ {y:SC},y=x->Rep cx.P w I' .any (U t o) G:=fun _=>Rep.any hr.one
 cases x with
 | c x =>
  by_cases hw:isOw (.c x)=true
  ·have:lent0 t (.c x)=[t]:=by cases x<;>first | rfl | simp [isOw] at hw
   exact frozen_rep hr hI (fun b hb=>hl t (by rw [this];simp) b (n3 o b hb).1) G
  ·exact frozen_rep (SCRep.plain (G':=FP.none) hr (by simpa using hw)) hI (fun b hb=>hb.elim) G
 | v e k o2 p n r =>
  simp only [lend0]
  split
  ·rename_i e' es hro
   have hro:=rowsF_eq hro hob
   obtain ⟨rfl,K2,x0,hK2,hst,hx0,hg⟩:=rowsAt_none hro
   obtain ⟨u,G1,c1,c2,c3⟩:=way_at h hK2 hx0 hg
   obtain ⟨_,K',hK',_,hv⟩:=hr
   rw [hK2] at hK';cases hK'
   obtain ⟨u',d1,d2⟩:=hv hst x0 _ hx0 hg
   rw [c1] at d1;cases d1
   have hf:=frozen_rep c2 hI (fun b hb=>hl k (by simp [lent0]) b (c3 b hb)) G
   simp only [frozen] at hf
   cases r with
   | none=>rw [d2];exact hf
   | some r =>
    obtain ⟨lo,hi⟩:=r
    simp only
    split
    ·rename_i hle
     rw [d2]
     exact rep_cut hf (by simpa [frozenRs_map,mapR] using hle.2) hle.1 G
    ·exact one rfl
  ·exact one rfl
 | pr k o n=>exact one rfl
 | p e k o2 p n i j =>
  simp only [lend0]
  split
  ·rename_i e' es hro
   obtain ⟨hob1,hob2⟩:=hob
   rw [hro] at hob2
   simp only at hob2
   have hro:=rowsF_eq (r:=none) hro hob1
   obtain ⟨rfl,K2,x0,hK2,hst,hx0,hg⟩:=rowsAt_none hro
   obtain ⟨u,G1,c1,c2,c3⟩:=way_at h hK2 hx0 hg
   obtain ⟨_,K',hK',_,hv⟩:=hr
   rw [hK2] at hK';cases hK'
   obtain ⟨g,m,c,d1,d2⟩:=hv hst x0 _ hx0 hg
   rw [c1] at d1;cases d1
   have hf:=frozen_rep c2 hI (fun b hb=>hl k (by simp [lent0]) b (c3 b hb)) G
   simp only [frozen] at hf
   obtain ⟨A,c',us,f1,f2,f3,f4,f5,f6⟩:=hf.sh_inv
   injection f1 with f1 _ _
   have hi:i<(frozenRs es).n:=by simpa [frozenRs_map,mapR] using hob2
   obtain ⟨ad,g1,g2,g3⟩:=f4 (by omega)
   rw [<- f1] at g1;cases g1
   have hrow:=Rows.l_eq (frozenRs es) hi
   rw [d2]
   refine .rp (fun o'=>us i (j+o')) (by simpa using g2) (fun o' ho'=>?_) (fun o' x hx=>?_)
   ·have:=g3 i _ hrow (j+o') (by rw [List.length_drop] at ho';omega)
    rw [Addr.add_lit] at this ⊢
    rw [<- this];congr 2;simp;omega
   ·rw [List.getElem?_drop] at hx
    exact f6 i _ (j+o') x hrow hx
  ·exact one rfl
 | q row o=>exact one rfl
 | fn f ks=>exact one rfl
theorem lendN_rep (h:RelW cx I U B F σ a w) {I':Nat->Prop} (hI:∀ b,I b->I' b):∀ (m:Nat) {t o:Nat} {K:Ky},σ t=some K->∀ {x:SC},K.cells[o]?=some x->(∀ k∈lentN σ m t x,∀ b,F k b->I' b)->lendObN σ m x->∀ G:FP,
  Rep cx.P w I' (lendN σ m x) (U t o) G
 | 0,t,o,K,hK,x,hx,hl,hob,G=>lend0_rep h hK hx hI hl hob G
 | m+1,t,o,K,hK,x,hx,hl,hob,G=>by
  have other:lentN σ (m+1) t x=lent0 t x->lendObN σ (m+1) x=lendOb0 σ x->lendN σ (m+1) x=lend0 σ x->Rep cx.P w I' (lendN σ (m+1) x) (U t o) G:=fun e1 e2 e3=>by
   rw [e3];exact lend0_rep h hK hx hI (by rwa [e1] at hl) (by rwa [e2] at hob) G
  cases x with
  | fn f ks =>
   obtain ⟨_,_,⟨N,n1,n2,n3⟩,_⟩:=h.key t K hK
   obtain ⟨vs,v1,v2,v3⟩:=n1 o _ hx
   rw [v1]
   simp only [lendN]
   refine .fn vs (by simpa using v2) (fun i y hy=>?_)
   rw [List.getElem?_map] at hy
   obtain ⟨q,hq,rfl⟩:=Option.map_eq_some_iff.1 hy
   obtain ⟨k,n⟩:=q
   obtain ⟨⟨ad,a1⟩,K2,a2,a3,a4⟩:=v3 i k n hq
   have hany:Rep cx.P w I' .any (vs.getD i undef) FP.none:=.any (by rw [a1];rfl)
   unfold boxRow
   split
   ·rename_i cells lg hk
    simp only at hk
    rw [hk] at a2;cases a2
    split
    ·exact hany
    ·rename_i hg
     have hv:=a4 hg rfl
     obtain ⟨_,hroot,_,hrf⟩:=h.key k _ hk
     obtain ⟨r1,r2,cur,e,r3,r4⟩:=hroot.2
     have hin:∀ k'∈(k:Nat)::cells.flatMap (lentN σ m k),k'∈lentN σ (m+1) t (.fn f ks):=fun k' hk'=>by
      simp only [lentN]
      exact List.mem_flatMap.2 ⟨(k,n),List.mem_of_getElem? hq,by simp only [hk];exact hk'⟩
     rw [hv]
     obtain ⟨K3,o1,o2⟩:=obK_all (g:=lendObN σ m) (by simpa only [lendObN] using hob) (k,n) (List.mem_of_getElem? hq)
     simp only at o1
     rw [hk] at o1;cases o1
     refine .rp (U k) (hl k (hin k (List.mem_cons_self ..)) _ (hrf _ ⟨rfl,rfl⟩)) (fun o' ho'=>?_) (fun o' y hy=>?_)
     ·have:=r4 o' (by simpa using ho')
      by_cases h0:o'=0
      ·subst h0;simpa [World.cell?,Addr.add,r3] using this
      ·simpa [World.cell?,Addr.add,r3,h0] using this
     ·rw [List.getElem?_map] at hy
      obtain ⟨z,hz,rfl⟩:=Option.map_eq_some_iff.1 hy
      exact lendN_rep h hI m hk hz (fun k' hk'=>hl k' (hin k' (List.mem_cons_of_mem _ (List.mem_flatMap.2 ⟨z,List.mem_of_getElem? hz,hk'⟩)))) (obL_all (fun x hx=>lendObN_no hx) o2 z (List.mem_of_getElem? hz)) _
   ·exact hany
  | _=>exact other rfl rfl rfl
theorem lendC_rep (h:RelW cx I U B F σ a w) {t o:Nat} {K:Ky} (hK:σ t=some K) {x:SC} (hx:K.cells[o]?=some x) {I':Nat->Prop} (hI:∀ b,I b->I' b) (hl:∀ k∈lentC σ t x,∀ b,F k b->I' b) (hob:lendOb σ x) (G:FP) :
  Rep cx.P w I' (lendC σ x) (U t o) G:=lendN_rep h hI 2 hK hx hl hob G
theorem lentN_in (h:RelW cx I U B F σ a w):∀ (m:Nat) {t o:Nat} {K:Ky},σ t=some K->∀ {x:SC},K.cells[o]?=some x->∀ k∈lentN σ m t x,k<cx.n:=by
 have base:∀ {t o:Nat} {K:Ky},σ t=some K->∀ {x:SC},K.cells[o]?=some x->∀ k∈lent0 t x,k<cx.n:=by
  intro t o K hK y hy k hk
  obtain ⟨htn,hroot,⟨Nk,n1,n2,n3⟩,hrf⟩:=h.key t K hK
  have hr:=n1 o y hy
  cases y with
  | c z=>cases z<;>simp [lent0] at hk;rw [hk];exact htn
  | v e k' o p n r =>
   simp [lent0] at hk
   subst hk
   obtain ⟨_,K',hK',_⟩:=hr
   exact (h.key _ _ hK').1
  | p e k' o p n i j =>
   simp [lent0] at hk
   subst hk
   obtain ⟨_,K',hK',_⟩:=hr
   exact (h.key _ _ hK').1
  | _=>simp [lent0] at hk
 intro m
 induction m with
 | zero=>intro t o K hK x hx k hk;exact base hK hx k hk
 | succ m ih =>
  intro t o K hK x hx k hk
  cases x with
  | fn f ks =>
   obtain ⟨_,_,⟨N,n1,n2,n3⟩,_⟩:=h.key t K hK
   obtain ⟨vs,v1,v2,v3⟩:=n1 o _ hx
   simp only [lentN] at hk
   obtain ⟨q,hq,hk⟩:=List.mem_flatMap.1 hk
   obtain ⟨k1,n⟩:=q
   obtain ⟨i,hi⟩:=List.getElem?_of_mem hq
   obtain ⟨_,K2,a2,_⟩:=v3 i k1 n hi
   rcases List.mem_cons.1 hk with rfl | hk
   ·exact (h.key _ _ a2).1
   ·simp only [a2] at hk
    obtain ⟨y,hy,hk⟩:=List.mem_flatMap.1 hk
    obtain ⟨o',hy⟩:=List.getElem?_of_mem hy
    exact ih a2 hy k hk
  | _=>exact base hK hx k hk
def boxC:SC->SC
 | .c x=>.c x
 | _=>.c .any
abbrev Inn:=Ky×List Nat×Option Nat
def lendIn (σ:St):Operand->Option Inn
 | .tmp t=>match σ t with
  | some K=>if isVal K.sh=true/\∀ k∈K.cells.flatMap (lentC σ t),(σ k).isSome=true then some (⟨K.sh,K.cells.map fun y=>.c (lendC σ y),[]⟩,K.cells.flatMap (lentC σ t),none) else none
  | none=>none
 | x=>match arg1 σ x with
  | some (.one (.c y))=>some (⟨.one,[.c y],[]⟩,[],none)
  | some (.agg ys)=>if ys.all isC then some (⟨.agg,ys,[]⟩,[],none) else none
  | _=>none
def lenA (σ:St):SC->CV
 | .c (.sh _ es)=>.ln es.n
 | .c (.b x)=>.b x
 | .c (.n k x)=>.n k x
 | .c (.s x)=>.s x
 | .v e k o p n none=>match rowsAt σ (.v e k o p n none) with
  | some (_,es)=>.ln es.n
  | none=>.any
 | _=>.any
def lenIn (σ:St):Operand->Option Inn
 | .tmp t=>match σ t with
  | some K=>if isVal K.sh=true/\∀ k∈K.cells.flatMap (lentC σ t),(σ k).isSome=true then some (⟨K.sh,K.cells.map fun y=>.c (lenA σ y),[]⟩,[],none) else none
  | none=>none
 | _=>none
theorem lenA_rep (h:RelW cx I U B F σ a w) {t o:Nat} {K:Ky} (hK:σ t=some K) {x:SC} (hx:K.cells[o]?=some x) {I':Nat->Prop} (G:FP):Rep cx.P w I' (lenA σ x) (U t o) G:=by
 obtain ⟨_,_,⟨N,n1,_⟩,_⟩:=h.key t K hK
 have hr:=n1 o x hx
 have any:Rep cx.P w I' .any (U t o) G:=Rep.any hr.one
 cases x with
 | c x =>
  have hr:Rep cx.P w I x (U t o) (N o):=hr
  cases x with
  | sh e es=>obtain ⟨A,c,us,hv,h1,h2,_⟩:=Rep.sh_inv hr;simp only [lenA];rw [hv];exact .ln h1 h2
  | b=>simp only [lenA];generalize U t o=u at hr;cases hr;exact .b
  | n=>simp only [lenA];generalize U t o=u at hr;cases hr;exact .n
  | s=>simp only [lenA];generalize U t o=u at hr;cases hr;exact .s
  | _=>exact any
 | v e k o p n r =>
  cases r with
  | some r=>exact any
  | none =>
   simp only [lenA]
   split
   ·rename_i hro
    obtain ⟨A,c,hv,h1,h2,_⟩:=rowsAt_len h (SCRep.plain (G':=FP.none) hr rfl) hro
    rw [hv];exact .ln h1 h2
   ·exact any
 | _=>exact any
def cutC:Option Nat->List SC->List SC
 | none,l=>l
 | some c,l=>l.take c
theorem cutC_at (c:Option Nat) (l:List SC) (o:Nat) (h:o<(cutC c l).length):(cutC c l)[o]?=l[o]?:=by
 cases c with
 | none=>rfl
 | some c=>simp only [cutC,List.length_take] at h ⊢;rw [List.getElem?_take,if_pos (by omega)]
theorem cutC_le (c:Option Nat) (l:List SC):(cutC c l).length<=l.length:=by
 cases c with
 | none=>exact Nat.le_refl _
 | some c=>simp only [cutC,List.length_take];omega
def ptrIn (σ:St) (x:Operand) (c:Option Nat):Option Inn:=match one1 σ x with
 | some (.pr k 0 n)=>match σ k with
  | some K=>if K.sh=.box/\gone K.log n=false/\0<(cutC c K.cells).length then some (⟨.box,(cutC c K.cells).map boxC,[]⟩,[],some k) else none
  | none=>none
 | _=>none
def argIn (σ:St) (x:Operand) (md:Md):Given->Option Inn
 | some (sh,xs)=>some (⟨sh,xs.map SC.c,[]⟩,[],none)
 | none=>match md with
  | .ptr=>ptrIn σ x none
  | .part c=>ptrIn σ x (some c)
  | .len=>lenIn σ x
  | _=>lendIn σ x
def argsIn (σ:St):List (Operand×Md)->List Given->Option (List Inn)
 | [],_=>some []
 | _::_,[]=>none
 | (x,md)::ps,g::gs=>match argIn σ x md g with
  | some q=>match argsIn σ ps gs with
   | some r=>some (q::r)
   | none=>none
  | none=>none
def insL:Nat->List Inn->L
 | _,[]=>[]
 | j,q::r=>(j,q.1)::insL (j+1) r
def bxsL:Nat->List Inn->List (Nat×Nat)
 | _,[]=>[]
 | j,(_,_,some k)::r=>(j,k)::bxsL (j+1) r
 | j,(_,_,none)::r=>bxsL (j+1) r
def lentL (r:List Inn):List Nat:=r.flatMap (·.2.1)
theorem insL_at:∀ (r:List Inn) (j0 j:Nat),mk (insL j0 r) j=if j<j0 then none else (r[j-j0]?).map (·.1):=by
 intro r
 induction r with
 | nil=>intro j0 j;simp [insL,mk]
 | cons q r ih =>
  intro j0 j
  simp only [insL,mk,up]
  by_cases h1:j=j0
  ·subst h1;simp
  ·simp only [h1,if_false]
   rw [ih]
   by_cases h2:j<j0
   ·rw [if_pos h2,if_pos (by omega)]
   ·rw [if_neg h2,if_neg (by omega)]
    rw [show j-j0=(j-(j0+1))+1 by omega,List.getElem?_cons_succ]
theorem bxsL_mem:∀ (r:List Inn) (j0 j k:Nat),(j,k)∈bxsL j0 r↔j0<=j/\∃ q,r[j-j0]?=some q/\q.2.2=some k:=by
 intro r
 induction r with
 | nil=>intro j0 j k;simp [bxsL]
 | cons q r ih =>
  intro j0 j k
  have step:(j0+1<=j/\∃ q',r[j-(j0+1)]?=some q'/\q'.2.2=some k)↔(j≠j0/\j0<=j/\∃ q',(q::r)[j-j0]?=some q'/\q'.2.2=some k):=by
   constructor
   ·rintro ⟨h1,h2⟩
    refine ⟨by omega,by omega,?_⟩
    rw [show j-j0=(j-(j0+1))+1 by omega,List.getElem?_cons_succ];exact h2
   ·rintro ⟨h0,h1,h2⟩
    refine ⟨by omega,?_⟩
    rw [show j-j0=(j-(j0+1))+1 by omega,List.getElem?_cons_succ] at h2;exact h2
  obtain ⟨K,lt,bk⟩:=q
  cases bk with
  | none =>
   simp only [bxsL]
   rw [ih,step]
   constructor
   ·exact fun h=>h.2
   ·intro h
    refine ⟨fun e=>?_,h⟩
    obtain ⟨_,q',h1,h2⟩:=h
    subst e
    simp at h1
    subst h1
    cases h2
  | some k' =>
   simp only [bxsL,List.mem_cons,Prod.mk.injEq]
   rw [ih,step]
   constructor
   ·rintro (⟨rfl,rfl⟩ | h)
    ·exact ⟨Nat.le_refl _,_,by simp;rfl,rfl⟩
    ·exact h.2
   ·intro h
    by_cases e:j=j0
    ·subst e
     obtain ⟨_,q',h1,h2⟩:=h
     simp at h1
     subst h1
     exact .inl ⟨rfl,(Option.some.inj h2).symm⟩
    ·exact .inr ⟨e,h⟩
theorem argsIn_at:∀ (ps:List (Operand×Md)) (gs:List Given) (r:List Inn),argsIn σ ps gs=some r->r.length=ps.length/\∀ (j:Nat) q,r[j]?=some q->∃ x md g,ps[j]?=some (x,md)/\gs[j]?=some g/\argIn σ x md g=some q:=by
 intro ps
 induction ps with
 | nil =>
  intro gs r h
  simp only [argsIn] at h
  injection h with h;subst h
  exact ⟨rfl,fun j q hq=>by simp at hq⟩
 | cons p ps ih =>
  intro gs r h
  obtain ⟨x,md⟩:=p
  cases gs with
  | nil=>simp [argsIn] at h
  | cons g gs =>
   simp only [argsIn] at h
   split at h
   ·rename_i q hq
    split at h
    ·rename_i r' hr
     injection h with h;subst h
     obtain ⟨h1,h2⟩:=ih gs r' hr
     refine ⟨by simp [h1],fun j q' hj=>?_⟩
     cases j with
     | zero=>simp at hj;subst hj;exact ⟨x,md,g,rfl,rfl,hq⟩
     | succ j=>simpa using h2 j q' (by simpa using hj)
    ·cases h
   ·cases h
theorem argIn_ok (h:RelW cx I U B F σ a w) {NN:Nat->Nat->FP} (hNN:Split cx I U B F σ w NN) {x:Operand} {md:Md} {g:Given} {q:Inn} (hq:argIn σ x md g=some q) {I':Nat->Prop} (hI:∀ b,I b->I' b) (hlt:∀ k∈q.2.1,∀ b,F k b->I' b) {us:Nat->Value} {N:Nat->FP}
  (hg:∀ sh xs,g=some (sh,xs)->isVal sh=true/\RootAt w ⟨sh,xs.map SC.c,[]⟩ (a.eval x) us (0,0)/\∀ (o:Nat) y,xs[o]?=some y->Rep cx.P w I' y (us o) (N o)) (hN:∀ o o' b,N o b->N o' b->o=o')
  (hbI:∀ k,q.2.2=some k->∀ b,I' b->I b∨¬ F k b) (hob:∀ t,x=.tmp t->∃ K,σ t=some K/\∀ y∈K.cells,lendOb σ y) :
  ∃ s:(Nat->Value)×(Nat×Nat)×FP,KR cx.P w I' noSt (fun _=>s.1) (fun _=>s.2.1) 0 q.1 (a.eval x) s.2.2/\q.1.cells.all isC=true/\(∀ k∈q.2.1,k<cx.n) /\
   (∀ b,s.2.2 b->(g≠none/\q.2.2=none/\∃ o,N o b)∨(∃ k,q.2.2=some k/\F k b/\∀ o,q.1.cells.length<=o->¬ NN k o b)) /\
   (∀ k,q.2.2=some k->∃ K,σ k=some K/\K.sh=.box/\q.1.sh=.box/\q.1.cells.length<=K.cells.length/\s.2.1=B k/\a.eval x=a.tmps.getD k undef):=by
 have allC:∀ (xs:List CV),(xs.map SC.c).all isC=true:=fun xs=>by simp [isC,List.all_eq_true]
 cases g with
 | some g =>
  obtain ⟨sh,xs⟩:=g
  simp only [argIn] at hq
  injection hq with hq;subst hq
  obtain ⟨h1,h2,h3⟩:=hg sh xs rfl
  refine ⟨(us,(0,0),fun b=>∃ o,N o b),⟨h2,⟨N,fun o y hy=>?_,hN,fun o b hb=>⟨⟨o,hb⟩,fun hr=>?_⟩⟩,fun b hb=>?_⟩,allC xs,fun k hk=>by simp at hk,fun b hb=>.inl ⟨by simp,rfl,hb⟩,fun k hk=>by cases hk⟩
  ·simp only [List.getElem?_map] at hy
   obtain ⟨y',hy',rfl⟩:=Option.map_eq_some_iff.1 hy
   exact h3 o y' hy'
  ·have:=hr.1
   simp only at this
   subst this
   simp [isVal] at h1
  ·have:=hb.1
   simp only at this
   subst this
   simp [isVal] at h1
 | none =>
  have lend:lendIn σ x=some q->∃ s:(Nat->Value)×(Nat×Nat)×FP,KR cx.P w I' noSt (fun _=>s.1) (fun _=>s.2.1) 0 q.1 (a.eval x) s.2.2/\q.1.cells.all isC=true/\(∀ k∈q.2.1,k<cx.n) /\
   (∀ b,s.2.2 b->((none:Given)≠none/\q.2.2=none/\∃ o,N o b)∨(∃ k,q.2.2=some k/\F k b/\∀ o,q.1.cells.length<=o->¬ NN k o b)) /\
   (∀ k,q.2.2=some k->∃ K,σ k=some K/\K.sh=.box/\q.1.sh=.box/\q.1.cells.length<=K.cells.length/\s.2.1=B k/\a.eval x=a.tmps.getD k undef):=by
   clear hq hg
   intro hq
   unfold lendIn at hq
   split at hq
   ·rename_i t
    split at hq
    ·rename_i K hK
     split at hq
     ·rename_i hv
      obtain ⟨hv,_⟩:=hv
      injection hq with hq;subst hq
      obtain ⟨htn,hroot,⟨Nk,n1,n2,n3⟩,hrf⟩:=h.key t K hK
      refine ⟨(U t,(0,0),FP.none),⟨⟨fun o ho=>hroot.1 o (by simpa using ho),?_⟩,⟨fun _=>FP.none,fun o y hy=>?_,fun _ _ _ h=>h.elim,fun _ _ h=>h.elim⟩,fun b hb=>?_⟩,by simp [List.all_eq_true,isC],fun k hk=>?_,fun b hb=>hb.elim,fun k hk=>by cases hk⟩
      ·have h2:=hroot.2
       simp only [Act.eval]
       cases hs:K.sh with
       | one=>simp only [hs] at h2 ⊢;simpa using h2
       | agg=>simp only [hs] at h2 ⊢;simpa using h2
       | tup sig=>simp [hs,isVal] at hv
       | box=>simp [hs,isVal] at hv
      ·simp only [List.getElem?_map] at hy
       obtain ⟨y',hy',rfl⟩:=Option.map_eq_some_iff.1 hy
       exact lendC_rep h hK hy' hI (fun k hk b hb=>hlt k (List.mem_flatMap.2 ⟨y',List.mem_of_getElem? hy',hk⟩) b hb) (by obtain ⟨K',e1,e2⟩:=hob t rfl;rw [hK] at e1;cases e1;exact e2 _ (List.mem_of_getElem? hy')) _
      ·have:=hb.1
       simp only at this
       rw [this] at hv
       simp [isVal] at hv
      ·obtain ⟨y,hy,hk⟩:=List.mem_flatMap.1 hk
       obtain ⟨o,hy⟩:=List.getElem?_of_mem hy
       exact lentN_in h 2 hK hy k hk
     ·cases hq
    ·cases hq
   ·rename_i x0 hx
    split at hq
    ·rename_i y hy
     injection hq with hq;subst hq
     have h1:one1 σ x=some (.c y):=by
      unfold arg1 at hy
      split at hy
      ·rename_i z hz;injection hy with hy;injection hy with hy;rw [hz,hy]
      ·obtain ⟨_,_,e⟩:=Option.map_eq_some_iff.1 hy;cases e
     have hr:Rep cx.P w I y (a.eval x) FP.none:=one1_rep h h1
     refine ⟨(fun _=>a.eval x,(0,0),FP.none),⟨⟨fun o _=>hr.one,rfl,rfl⟩,⟨fun _=>FP.none,fun o z hz=>?_,fun _ _ _ h=>h.elim,fun _ _ h=>h.elim⟩,fun b hb=>by cases hb.1⟩,rfl,fun k hk=>by simp at hk,fun b hb=>hb.elim,fun k hk=>by cases hk⟩
     cases o with
     | zero=>simp at hz;subst hz;exact hr.grow hI (fun b _=>.inr (fun h=>h))
     | succ o=>simp at hz
    ·rename_i ys hy
     split at hq
     ·rename_i hall
      injection hq with hq;subst hq
      have h1:agg1 σ x=some ys:=by
       unfold arg1 at hy
       split at hy
       ·rename_i z hz;injection hy with hy;cases hy
       ·obtain ⟨_,h2,e⟩:=Option.map_eq_some_iff.1 hy;injection e with e;rw [h2,e]
      obtain ⟨arr,h2,h3,h4⟩:=agg1_rep h h1
      have hus:∀ o,o<ys.length->arr[o]?=some (arr.getD o undef):=fun o ho=>by
       rw [Array.getD_eq_getD_getElem?,Array.getElem?_eq_getElem (by omega)];rfl
      have hrep:∀ (o:Nat) s,ys[o]?=some s->SCRep cx.P w I σ U B s (arr.getD o undef) FP.none:=fun o s hs=>by
       obtain ⟨u,e1,e2⟩:=h4 o s hs
       have:=hus o (List.getElem?_eq_some_iff.1 hs).1
       rw [e1] at this
       rw [<- Option.some.inj this]
       exact e2
      refine ⟨(fun o=>arr.getD o undef,(0,0),FP.none),⟨⟨fun o ho=>(hrep o _ (List.getElem?_eq_getElem ho)).one,arr,h2,h3,hus⟩,⟨fun _=>FP.none,fun o z hz=>?_,fun _ _ _ h=>h.elim,fun _ _ h=>h.elim⟩,fun b hb=>by cases hb.1⟩,hall,fun k hk=>by simp at hk,fun b hb=>hb.elim,fun k hk=>by cases hk⟩
      exact isC_rep (List.all_eq_true.1 hall z (List.mem_of_getElem? hz)) (hrep o z hz) (fun y _ hr=>hr.grow hI (fun b _=>.inr (fun h=>h)))
     ·cases hq
    ·cases hq
  have ptr:∀ c,ptrIn σ x c=some q->∃ s:(Nat->Value)×(Nat×Nat)×FP,KR cx.P w I' noSt (fun _=>s.1) (fun _=>s.2.1) 0 q.1 (a.eval x) s.2.2/\q.1.cells.all isC=true/\(∀ k∈q.2.1,k<cx.n) /\
   (∀ b,s.2.2 b->((none:Given)≠none/\q.2.2=none/\∃ o,N o b)∨(∃ k,q.2.2=some k/\F k b/\∀ o,q.1.cells.length<=o->¬ NN k o b)) /\
   (∀ k,q.2.2=some k->∃ K,σ k=some K/\K.sh=.box/\q.1.sh=.box/\q.1.cells.length<=K.cells.length/\s.2.1=B k/\a.eval x=a.tmps.getD k undef):=by
   clear hq hg lend
   intro c hq
   unfold ptrIn at hq
   split at hq
   ·rename_i k n h1
    split at hq
    ·rename_i K hK
     split at hq
     ·rename_i hb
      injection hq with hq;subst hq
      obtain ⟨hb1,hb2,hb3⟩:=hb
      have hle:=cutC_le c K.cells
      have hat:=cutC_at c K.cells
      generalize cutC c K.cells=C at *
      obtain ⟨_,hroot,_,hrf⟩:=h.key k K hK
      obtain ⟨_,K',hK',_,hv⟩:=one1_rep h h1
      rw [hK] at hK';cases hK'
      have hv:=hv hb2 hb1
      have hroot2:=hroot.2
      simp only [hb1] at hroot2
      obtain ⟨r1,r2,cur,e,r3,r4⟩:=hroot2
      have hev:a.eval x=a.tmps.getD k undef:=by rw [hv,r2];rfl
      have hsub:∀ o b,NN k o b->F k b/\¬ rootFP K (B k) b:=fun o b hb=>by
       obtain ⟨K',h1,_,h3,h4⟩:=hNN.sub k o b hb
       rw [hK] at h1;cases h1
       exact ⟨h3,h4⟩
      refine ⟨(U k,B k,fun b=>F k b/\∀ o,C.length<=o->¬ NN k o b),⟨⟨fun o ho=>hroot.1 o (by simp at ho;omega),by simpa using hb3,by rw [hev];exact r2,cur,e,r3,fun o ho=>r4 o (by simp at ho;omega)⟩,⟨fun o=>if (C[o]?).any isC then NN k o else FP.none,fun o y hy=>?_,fun o o' b h1 h2=>?_,fun o b hb=>?_⟩,fun b hb=>?_⟩,by simp [List.all_eq_true];intro y _;cases y<;>rfl,fun k hk=>by simp at hk,fun b hb=>.inr ⟨k,rfl,hb.1,fun o ho=>hb.2 o (by simpa using ho)⟩,fun k' hk'=>?_⟩
      ·simp only [List.getElem?_map] at hy
       obtain ⟨y',hy',rfl⟩:=Option.map_eq_some_iff.1 hy
       have hy2:K.cells[o]?=some y':=by rw [<- hat o (List.getElem?_eq_some_iff.1 hy').1];exact hy'
       have hr:=hNN.rep k K hK o y' hy2
       cases y' with
       | c z =>
        simp only [hy',Option.any_some,isC,if_true,boxC]
        exact Rep.grow hr hI (fun b hb=>(hbI k rfl b hb).imp id (fun hn hN=>hn (hsub o b hN).1))
       | _=>simp only [boxC];exact Rep.any hr.one
      ·dsimp only at h1 h2
       split at h1
       ·split at h2
        ·exact hNN.dis _ _ _ _ h1 h2
        ·exact h2.elim
       ·exact h1.elim
      ·dsimp only at hb
       split at hb
       ·rename_i hsome
        have hlt:o<C.length:=by
         cases hc:C[o]? with
         | none=>simp [hc] at hsome
         | some z=>exact (List.getElem?_eq_some_iff.1 hc).1
        obtain ⟨m1,m2⟩:=hsub o b hb
        exact ⟨⟨m1,fun o' ho' hn=>by have:=hNN.dis _ _ _ _ hb hn;omega⟩,fun hr=>m2 ⟨hb1,hr.2⟩⟩
       ·exact hb.elim
      ·have hr:rootFP K (B k) b:=⟨hb1,hb.2⟩
       exact ⟨hrf b hr,fun o _ hn=>(hsub o b hn).2 hr⟩
      ·cases hk'
       exact ⟨K,hK,hb1,rfl,by simpa using hle,rfl,hev⟩
     ·cases hq
    ·cases hq
   ·cases hq
  cases md with
  | ptr=>exact ptr none hq
  | part c=>exact ptr (some c) hq
  | give=>exact lend hq
  | lend=>exact lend hq
  | len =>
   clear hg
   have hq':lenIn σ x=some q:=hq
   clear hq
   have hq:=hq'
   clear hq'
   unfold lenIn at hq
   split at hq
   ·rename_i t
    split at hq
    ·rename_i K hK
     split at hq
     ·rename_i hv
      obtain ⟨hv,_⟩:=hv
      injection hq with hq;subst hq
      obtain ⟨htn,hroot,⟨Nk,n1,n2,n3⟩,hrf⟩:=h.key t K hK
      refine ⟨(U t,(0,0),FP.none),⟨⟨fun o ho=>hroot.1 o (by simpa using ho),?_⟩,⟨fun _=>FP.none,fun o y hy=>?_,fun _ _ _ h=>h.elim,fun _ _ h=>h.elim⟩,fun b hb=>?_⟩,by simp [List.all_eq_true,isC],fun k hk=>by simp at hk,fun b hb=>hb.elim,fun k hk=>by cases hk⟩
      ·have h2:=hroot.2
       simp only [Act.eval]
       cases hs:K.sh with
       | one=>simp only [hs] at h2 ⊢;simpa using h2
       | agg=>simp only [hs] at h2 ⊢;simpa using h2
       | tup sig=>simp [hs,isVal] at hv
       | box=>simp [hs,isVal] at hv
      ·simp only [List.getElem?_map] at hy
       obtain ⟨y',hy',rfl⟩:=Option.map_eq_some_iff.1 hy
       exact lenA_rep h hK hy' _
      ·have:=hb.1
       simp only at this
       rw [this] at hv
       simp [isVal] at hv
     ·cases hq
    ·cases hq
   ·cases hq
end
end Go.Proofs.AI
namespace Go.Proofs.AI
open Go.RowKit
set_option linter.unusedVariables false
set_option linter.unusedSimpArgs false
section
variable {σ σ':St}
theorem sub_grab1 (h:Sub σ σ') {t o:Nat} {z:CV×L} (hs:grab1 σ t o=some z):grab1 σ' t o=some z:=by
 unfold grab1 at hs ⊢
 cases hk:σ t with
 | none=>rw [hk] at hs;cases hs
 | some K =>
  simp only [hk] at hs
  simp only [h t K hk]
  split at hs
  ·rename_i x hx;exact hs
  ·rename_i e k o2 p n r hx
   split at hs
   ·cases hs
   ·rename_i hr
    cases hk2:σ k with
    | none=>rw [hk2] at hs;cases hs
    | some K2=>rw [hk2] at hs;simp only [h k K2 hk2];rw [if_neg hr];exact hs
  ·rename_i y hno1 hno2 hx
   cases y with
   | c x=>exact absurd rfl (hno1 x)
   | v e k o p n r=>exact absurd rfl (hno2 e k o p n r)
   | _=>exact hs
  ·cases hs
theorem sub_grabs:∀ (m:Nat) {σ σ':St} {t o:Nat} {z:List CV×L},Sub σ σ'->grabs m σ t o=some z->grabs m σ' t o=some z:=by
 intro m
 induction m with
 | zero=>intro σ σ' t o z h hs;exact hs
 | succ m ih =>
  intro σ σ' t o z h hs
  simp only [grabs] at hs ⊢
  split at hs
  ·rename_i x o1 h1
   simp only [sub_grab1 h h1]
   split at hs
   ·rename_i xs o2 h2
    simp only [ih (sub_ups o1 h) h2];exact hs
   ·cases hs
  ·cases hs
theorem sub_passG:∀ (ps:List (Operand×Md)) {σ σ':St} {z:List Given×L},Sub σ σ'->passG σ ps=some z->passG σ' ps=some z:=by
 intro ps
 induction ps with
 | nil=>intro σ σ' z h hs;exact hs
 | cons p ps ih =>
  intro σ σ' z h hs
  unfold passG at hs
  split at hs
  ·cases ‹_::_=[]›
  ·rename_i t r heq
   injection heq with e1 e2;subst e1 e2
   simp only [passG]
   cases hk:σ t with
   | none=>rw [hk] at hs;cases hs
   | some K =>
    rw [hk] at hs
    simp only [h t K hk]
    simp only at hs
    split at hs
    ·rename_i hv
     rw [if_pos hv]
     split at hs
     ·rename_i xs o1 h1
      simp only [sub_grabs _ h h1]
      split at hs
      ·rename_i l o2 h2
       simp only [ih (sub_ups o1 h) h2];exact hs
      ·cases hs
     ·cases hs
    ·cases hs
  ·rename_i x md r hno heq
   injection heq with e1 e2;subst e1 e2
   split at hs
   ·rename_i l o h1
    have:=ih h h1
    unfold passG
    split
    ·cases ‹_::_=[]›
    ·rename_i t r heq
     injection heq with e1 e2;injection e1 with e3 e4
     exact absurd e4 (fun e4=>hno t e3 e4)
    ·rename_i heq
     injection heq with e1 e2;subst e2
     simp only [this];exact hs
   ·cases hs
theorem argIn_lent {cx:Cx} {I:Nat->Prop} {U:Nat->Nat->Value} {B:Nat->Nat×Nat} {F:Nat->FP} {a:Act} {w:World} (h:RelW cx I U B F σ a w) {x:Operand} {md:Md} {g:Given} {q:Inn} (hq:argIn σ x md g=some q):∀ k∈q.2.1,k<cx.n:=by
 have lend:lendIn σ x=some q->∀ k∈q.2.1,k<cx.n:=by
  clear hq
  intro hq k hk
  unfold lendIn at hq
  split at hq
  ·rename_i t
   split at hq
   ·rename_i K hK
    split at hq
    ·injection hq with hq;subst hq
     obtain ⟨y,hy,hk⟩:=List.mem_flatMap.1 hk
     obtain ⟨o,hy⟩:=List.getElem?_of_mem hy
     exact lentN_in h 2 hK hy k hk
    ·cases hq
   ·cases hq
  ·split at hq
   ·injection hq with hq;subst hq;simp at hk
   ·split at hq
    ·injection hq with hq;subst hq;simp at hk
    ·cases hq
   ·cases hq
 cases g with
 | some g =>
  obtain ⟨sh,xs⟩:=g
  simp only [argIn] at hq
  injection hq with hq;subst hq
  intro k hk;simp at hk
 | none =>
  have ptr:∀ c,ptrIn σ x c=some q->∀ k∈q.2.1,k<cx.n:=fun c hq=>by
   unfold ptrIn at hq
   split at hq
   ·split at hq
    ·split at hq
     ·injection hq with hq;subst hq;intro k hk;simp at hk
     ·cases hq
    ·cases hq
   ·cases hq
  cases md with
  | ptr=>exact ptr none hq
  | part c=>exact ptr (some c) hq
  | len =>
   replace hq:lenIn σ x=some q:=hq
   unfold lenIn at hq
   split at hq
   ·split at hq
    ·split at hq
     ·injection hq with hq;subst hq;intro k hk;simp at hk
     ·cases hq
    ·cases hq
   ·cases hq
  | give=>exact lend hq
  | lend=>exact lend hq
end
def boxOuts (σ:St) (l:L):List (Nat×Nat)->L
 | []=>[]
 | (j,k)::r=>match mk l j,σ k with
  | some K',some K=>(k,⟨.box,K'.cells++K.cells.drop K'.cells.length,K.log++marks K'.cells.length⟩)::boxOuts σ l r
  | _,_=>boxOuts σ l r
def plainK (K:Ky):Bool:=K.cells.all isC
def nodupB:List Nat->Bool
 | []=>true
 | x::r=>!r.contains x&&nodupB r
def sameLen:List SC->List SC->Bool
 | [],[]=>true
 | _::a,_::b=>sameLen a b
 | _,_=>false
theorem sameLen_eq:∀ {a b:List SC},sameLen a b=true->a.length=b.length
 | [],[],_=>rfl
 | _::a,_::b,h=>by simp only [List.length_cons,sameLen_eq (a:=a) (b:=b) h]
def callCk (d m:Nat) (l:L) (r:List Inn):Bool :=
 (lentL r).all (fun k=>!(bxsL 0 r).any (fun p=>p.2==k))&&nodupB ((bxsL 0 r).map (·.2))&&!(bxsL 0 r).any (fun p=>p.2==d) &&
 (bxsL 0 r).all (fun p=>match mk l p.1 with
  | some K=>K.sh==.box&&plainK K&&(match mk (insL 0 r) p.1 with
   | some K1=>sameLen K.cells K1.cells
   | none=>false)
  | none=>false) &&
 (match mk l m with
  | some K=>plainK K
  | none=>false)
def shOf (l:L) (j:Nat):Prop:=match mk l j with
 | some K=>noShL K.cells
 | none=>True
def boxSh (l:L):List (Nat×Nat)->Prop
 | []=>True
 | (j,_)::r=>shOf l j/\boxSh l r
def callSh (m:Nat) (l:L) (r:List Inn):Prop:=match lentL r with
 | []=>True
 | _::_=>shOf l m/\boxSh l (bxsL 0 r)
theorem boxSh_at {l:L}:∀ (bs:List (Nat×Nat)),boxSh l bs->∀ j k,(j,k)∈bs->shOf l j
 | [],_,j,k,h=>by simp at h
 | (j',k')::r,h,j,k,hjk=>by
  simp only [boxSh] at h
  rcases List.mem_cons.1 hjk with e | hjk
  ·injection e with e1 e2;subst e1;exact h.1
  ·exact boxSh_at r h.2 j k hjk
def callOuts (σ:St) (d m:Nat) (out:L) (l:L) (r:List Inn):L :=
 out++boxOuts (ups σ out) l (bxsL 0 r)++[(d,match mk l m with
  | some K=>⟨K.sh,K.cells,logAt (ups σ out) d⟩
  | none=>⟨.one,[],[]⟩)]
theorem nodupB_inj {α:Type} {f:α->Nat}:∀ (l:List α),nodupB (l.map f)=true->∀ (i j:Nat) (x y:α),l[i]?=some x->l[j]?=some y->f x=f y->i=j:=by
 intro l
 induction l with
 | nil=>intro _ i j x y hx;simp at hx
 | cons a l ih =>
  intro h i j x y hx hy he
  simp only [List.map_cons,nodupB,Bool.and_eq_true,Bool.not_eq_true',List.contains_eq_mem,decide_eq_false_iff_not] at h
  cases i<;>cases j
  ·rfl
  ·simp at hx hy
   subst hx
   exact absurd (List.mem_map.2 ⟨y,List.mem_of_getElem? hy,he.symm⟩) h.1
  ·simp at hx hy
   subst hy
   exact absurd (List.mem_map.2 ⟨x,List.mem_of_getElem? hx,he⟩) h.1
  ·simp at hx hy
   exact congrArg _ (ih h.2 _ _ _ _ hx hy he)
theorem boxOuts_at {σ:St} {l:L}:∀ (bs:List (Nat×Nat)) (τ:St) (t:Nat),nodupB (bs.map (·.2))=true ->
  (∀ j K K',(j,t)∈bs->σ t=some K->mk l j=some K'->ups τ (boxOuts σ l bs) t=some ⟨.box,K'.cells++K.cells.drop K'.cells.length,K.log++marks K'.cells.length⟩)/\((∀ j,(j,t) ∉ bs)->ups τ (boxOuts σ l bs) t=τ t):=by
 intro bs
 induction bs with
 | nil=>intro τ t _;exact ⟨fun j K K' h=>by simp at h,fun _=>rfl⟩
 | cons p bs ih =>
  intro τ t hn
  obtain ⟨j,k⟩:=p
  simp only [List.map_cons,nodupB,Bool.and_eq_true,Bool.not_eq_true',List.contains_eq_mem,decide_eq_false_iff_not] at hn
  have hk:∀ j',(j',k) ∉ bs:=fun j' hm=>hn.1 (List.mem_map.2 ⟨_,hm,rfl⟩)
  refine ⟨fun j' K K' hm hK hK'=>?_,fun hm=>?_⟩
  ·rcases List.mem_cons.1 hm with h1 | h1
   ·injection h1 with h1 h2;subst h1 h2
    simp only [boxOuts,hK',hK,ups]
    rw [(ih _ t hn.2).2 hk]
    simp [up]
   ·simp only [boxOuts]
    split
    ·simp only [ups];exact (ih _ t hn.2).1 j' K K' h1 hK hK'
    ·exact (ih _ t hn.2).1 j' K K' h1 hK hK'
  ·have h1:∀ j',(j',t) ∉ bs:=fun j' h=>hm j' (List.mem_cons_of_mem _ h)
   have h2:t≠k:=fun e=>hm j (by rw [e];exact List.mem_cons_self ..)
   simp only [boxOuts]
   split
   ·simp only [ups]
    rw [(ih _ t hn.2).2 h1]
    simp [up,h2]
   ·exact (ih _ t hn.2).2 h1
section
variable {P:Program} {S:List Nat} {ops:Array Oper} {i:Nat} {o:Oper} {σ:St}
def argsOb (σ:St) (xs:List Operand):Prop:=∀ t,Operand.tmp t∈xs->∃ K,σ t=some K/\∀ y∈K.cells,lendOb σ y
theorem rowsF_sub {σ σ':St} (h:Sub σ σ') {e:TypeId} {k o n:Nat} {p:Way} {q:TypeId×Rows CV} (hr:rowsF σ e k o p n=some q):rowsF σ' e k o p n=some q:=by
 unfold rowsF at hr ⊢
 cases hk:σ k with
 | none=>rw [hk] at hr;cases hr
 | some K=>rw [hk] at hr;simp only [h k K hk];exact hr
theorem lendOb0_sub {σ σ':St} (h:Sub σ σ') {y:SC} (hy:lendOb0 σ y):lendOb0 σ' y:=by
 unfold lendOb0 at hy ⊢
 split at hy
 ·rename_i k o p n r
  split at hy
  ·trivial
  ·cases hk:σ k with
   | none=>rw [hk] at hy;exact hy.elim
   | some K=>rw [hk] at hy;simp only [h k K hk];exact hy
 ·rename_i e k o p n i j
  obtain ⟨h1,h2⟩:=hy
  refine ⟨?_,?_⟩
  ·split at h1
   ·trivial
   ·cases hk:σ k with
    | none=>rw [hk] at h1;exact h1.elim
    | some K=>rw [hk] at h1;simp only [h k K hk];exact h1
  ·cases hr:rowsF σ e k o p n with
   | none=>rw [hr] at h2;exact h2.elim
   | some q=>rw [hr] at h2;simp only [rowsF_sub h hr];exact h2
 ·trivial
theorem obL_mono {g g':SC->Prop} (hg:∀ x,g x->g' x):∀ {l:List SC},obL g l->obL g' l
 | [],_=>trivial
 | y::r,h=>by
  simp only [obL] at h ⊢
  cases hn:needOb y with
  | true=>simp only [hn] at h ⊢;exact ⟨hg _ h.1,obL_mono hg h.2⟩
  | false=>simp only [hn] at h ⊢;exact obL_mono hg h
theorem obK_sub {σ σ':St} (h:Sub σ σ') {g g':SC->Prop} (hg:∀ x,g x->g' x):∀ {l:List (Nat×Nat)},obK g σ l->obK g' σ' l
 | [],_=>trivial
 | [y],h1=>by
  simp only [obK] at h1 ⊢
  cases hk:σ y.1 with
  | none=>rw [hk] at h1;exact h1.elim
  | some K=>rw [hk] at h1;simp only [h _ K hk];exact obL_mono hg h1
 | y::z::r,h1=>by
  simp only [obK] at h1 ⊢
  cases hk:σ y.1 with
  | none=>rw [hk] at h1;exact h1.elim
  | some K=>rw [hk] at h1;simp only [h _ K hk];exact ⟨obL_mono hg h1.1,obK_sub h hg h1.2⟩
theorem lendObN_sub {σ σ':St} (h:Sub σ σ'):∀ (m:Nat) {y:SC},lendObN σ m y->lendObN σ' m y
 | 0,y,hy=>lendOb0_sub h hy
 | m+1,y,hy=>by
  cases y with
  | fn f ks=>simp only [lendObN] at hy ⊢;exact obK_sub h (fun x=>lendObN_sub h m) hy
  | _=>simp only [lendObN] at hy ⊢;exact lendOb0_sub h hy
theorem lendOb_sub {σ σ':St} (h:Sub σ σ') {y:SC} (hy:lendOb σ y):lendOb σ' y:=lendObN_sub h 2 hy
theorem argsOb_sub {σ σ':St} (h:Sub σ σ') {xs:List Operand} (ho:argsOb σ xs):argsOb σ' xs:=fun t ht=>by
 obtain ⟨K,e1,e2⟩:=ho t ht
 exact ⟨K,h t K e1,fun y hy=>lendOb_sub h (e2 y hy)⟩
def calleeOf:SC->Option (FuncId×List CV)
 | .c (.vl (.func (.func f) ⟨[]⟩ ⟨[]⟩))=>some (f,[])
 | .c (.fn f caps)=>some (f,caps)
 | _=>none
def capsL (caps:List CV):List Inn:=caps.map fun c=>(⟨.one,[.c c],[]⟩,[],none)
theorem callee_rep {cx:Cx} {w:World} {I:Nat->Prop} {U:Nat->Nat->Value} {B:Nat->Nat×Nat} {s:SC} {v:Value} {f:FuncId} {caps:List CV} (h:SCRep cx.P w I σ U B s v FP.none) (hc:calleeOf s=some (f,caps)) :
  ∃ vs:Array Value,v=.func (.func f) #[] vs/\vs.size=caps.length/\∀ (o:Nat) x,caps[o]?=some x->Rep cx.P w I x (vs.getD o undef) FP.none:=by
 unfold calleeOf at hc
 split at hc
 ·injection hc with hc;injection hc with h1 h2;subst h1 h2
  refine ⟨#[],vl_inv h,rfl,fun o x hx=>by simp at hx⟩
 ·injection hc with hc;injection hc with h1 h2;subst h1 h2
  have h:Rep cx.P w I (.fn _ _) v FP.none:=h
  generalize hG:FP.none=G at h
  cases h with
  | fn vs h1 h2=>subst hG;exact ⟨vs,rfl,h1,h2⟩
 ·cases hc
theorem snd_call {d:Nat} {f:FuncId} {caps:List CV} {s0:SC} {cl:Operand} {args:Array Operand} {ats:Array TypeId} (hd:o.dst=some d) (ho:o.op=.call ⟨.value cl,args,ats⟩) (hcl:one1 σ cl=some s0) (hce:calleeOf s0=some (f,caps)) {mds:List Md} (hml:mds.length=args.size) {gs:List Given} {out:L} {r0:List Inn}
  (hg:passG σ (args.toList.zip mds)=some (gs,out)) (hin:argsIn (ups σ out) (args.toList.zip mds) gs=some r0) (hob:argsOb (ups σ out) args.toList) {l:L} (hck:callCk d (args.size+caps.length) l (r0++capsL caps)=true) (hsh:callSh (args.size+caps.length) l (r0++capsL caps)) (hf:FunOK P f (args.size+caps.length) ((bxsL 0 (r0++capsL caps)).map (·.1)) (insL 0 (r0++capsL caps)) (·=l)) :
  Snd P σ o (ups σ (callOuts σ d (args.size+caps.length) out l (r0++capsL caps))):=by
 intro cx a w hP ⟨I,U,B,F,hr⟩ hdn K Q hK
 subst hP
 obtain ⟨vs,hcl,hvn,hvr⟩:=callee_rep (one1_rep hr hcl) hce
 generalize hrr:r0++capsL caps=r at *
 obtain ⟨F1,us,N,hR,hG⟩:=passG_ok _ (held_none hr) hg
 obtain ⟨NN,hNN⟩:=hR.split
 have hD0:∀ b,¬ (fun t=>if t=cx.n then FP.none else F t) cx.n b:=fun b hb=>by simp [FP.none] at hb
 have hD:∀ b,F1 cx.n b->cx.w0.heap.size<=b∨∀ q,cx.F0 b q:=fun b hb=>((hG.new b hb).resolve_left (hD0 b)).2
 obtain ⟨hrl,hrat0⟩:=argsIn_at _ _ _ hin
 have hzl:(args.toList.zip mds).length=args.size:=by simp [hml]
 have hrat:∀ (j:Nat) q,r[j]?=some q->(∃ x md g,(args.toList.zip mds)[j]?=some (x,md)/\gs[j]?=some g/\argIn (ups σ out) x md g=some q)∨(∃ i c,j=args.size+i/\caps[i]?=some c/\q=(⟨.one,[.c c],[]⟩,[],none)):=fun j q hj=>by
  subst hrr
  by_cases hlt:j<r0.length
  ·rw [List.getElem?_append_left hlt] at hj
   exact .inl (hrat0 j q hj)
  ·rw [List.getElem?_append_right (by omega)] at hj
   simp only [capsL,List.getElem?_map] at hj
   obtain ⟨c,hc,rfl⟩:=Option.map_eq_some_iff.1 hj
   exact .inr ⟨j-r0.length,c,by omega,hc,rfl⟩
 simp only [callCk,Bool.and_eq_true] at hck
 obtain ⟨⟨⟨⟨k1,k2⟩,k3⟩,k4⟩,k5⟩:=hck
 have hbm:∀ j k,(j,k)∈bxsL 0 r↔∃ q,r[j]?=some q/\q.2.2=some k:=fun j k=>by simpa using bxsL_mem r 0 j k
 have hlb:∀ k∈lentL r,∀ j,(j,k) ∉ bxsL 0 r:=fun k hk j hj=>by
  have h1:=List.all_eq_true.1 k1 k hk
  simp only [Bool.not_eq_true',List.any_eq_false] at h1
  exact h1 _ hj (by simp)
 have hdb:∀ j,(j,d) ∉ bxsL 0 r:=fun j hj=>by
  simp only [Bool.not_eq_true',List.any_eq_false] at k3
  exact k3 _ hj (by simp)
 have hlk:∀ k∈lentL r,k<cx.n:=fun k hk=>by
  obtain ⟨q,hq,hk⟩:=List.mem_flatMap.1 hk
  obtain ⟨j,hj⟩:=List.getElem?_of_mem hq
  rcases hrat j q hj with ⟨x,md,g,_,_,h3⟩ | ⟨i,c,_,_,rfl⟩
  ·exact argIn_lent hR h3 k hk
  ·simp at hk
 let I':Nat->Prop:=fun b=>I b∨∃ k∈lentL r,F1 k b
 have hnI:∀ b,F1 cx.n b->¬ I' b:=fun b hb hi=>by
  rcases hi with hi | ⟨k,hk,hi⟩
  ·exact (hR.own _ _ hb).2 hi
  ·have:=hR.dis _ _ _ hi hb
   have:=hlk k hk
   omega
 let vals:Array Value:=args.map a.eval++vs
 have each:∀ j,∃ s:(Nat->Value)×(Nat×Nat)×FP,∀ q,r[j]?=some q->∃ x,vals[j]?=some x/\KR cx.P w I' noSt (fun _=>s.1) (fun _=>s.2.1) 0 q.1 x s.2.2/\q.1.cells.all isC=true /\
   (∀ b,s.2.2 b->(q.2.2=none/\∃ o,N j o b)∨(∃ k,q.2.2=some k/\F1 k b/\∀ o,q.1.cells.length<=o->¬ NN k o b)) /\
   (∀ k,q.2.2=some k->∃ K,ups σ out k=some K/\K.sh=.box/\q.1.sh=.box/\q.1.cells.length<=K.cells.length/\s.2.1=B k/\x=a.tmps.getD k undef):=by
  intro j
  cases hj:r[j]? with
  | none=>exact ⟨(fun _=>undef,(0,0),FP.none),fun q hq=>by cases hq⟩
  | some q =>
   rcases hrat j q hj with ⟨x,md,g,h1,h2,h3⟩ | ⟨i,c,rfl,hc,rfl⟩
   rotate_left
   ·have hi:=(List.getElem?_eq_some_iff.1 hc).1
    refine ⟨(fun _=>vs.getD i undef,(0,0),FP.none),fun q' hq'=>?_⟩
    cases hq'
    refine ⟨vs.getD i undef,?_,⟨⟨fun o _=>(hvr i c hc).one,rfl,rfl⟩,⟨fun _=>FP.none,fun o z hz=>?_,fun _ _ _ h=>h.elim,fun _ _ h=>h.elim⟩,fun b hb=>by cases hb.1⟩,rfl,fun b hb=>hb.elim,fun k hk=>by cases hk⟩
    ·have e1:args.size+i-(args.map a.eval).size=i:=by simp
     have e2:vs[i]?=some (vs.getD i undef):=by rw [Array.getD_eq_getD_getElem?,Array.getElem?_eq_getElem (by omega)];rfl
     simp only [vals]
     rw [Array.getElem?_append_right (by simp),e1,e2]
    ·cases o with
     | zero=>simp at hz;subst hz;exact (hvr i c hc).grow (fun b hb=>.inl hb) (fun b _=>.inr (fun h=>h))
     | succ o=>simp at hz
   have hx:args[j]?=some x:=by
    have:=(List.getElem?_zip_eq_some.1 h1).1
    simpa using this
   have hxv:vals[j]?=some (a.eval x):=by
    have:=(Array.getElem?_eq_some_iff.1 hx).1
    simp only [vals]
    rw [Array.getElem?_append_left (by simpa using this),Array.getElem?_map,hx];rfl
   obtain ⟨s,s1,s2,s3,s4,s5⟩:=argIn_ok hR hNN h3 (I':=I') (fun b hb=>.inl hb) (fun k hk b hb=>.inr ⟨k,List.mem_flatMap.2 ⟨q,List.mem_of_getElem? hj,hk⟩,hb⟩) (us:=us j) (N:=N j)
    (fun sh xs hgx=>by
     subst hgx
     obtain ⟨g1,g2,g3⟩:=hG.at_ j x md sh xs h1 h2
     exact ⟨g1,g2,fun o y hy=>(g3 o y hy).grow (fun b hb=>.inl hb) (fun b hb=>.inr (fun hn=>hnI b (hG.sub j o b hn).1 hb))⟩)
    (fun o o' b h1 h2=>(hG.dis _ _ _ _ _ h1 h2).2)
    (fun k hk b hb=>hb.imp id (fun ⟨k',hk',hF⟩ hF'=>by
     have:=hR.dis _ _ _ hF hF'
     subst this
     exact hlb k' hk' j ((hbm j k').2 ⟨q,hj,hk⟩)))
    (fun t ht=>hob t (by subst ht;exact List.mem_of_getElem? (by simpa using hx)))
   refine ⟨s,fun q' hq'=>?_⟩
   cases hq'
   exact ⟨_,hxv,s1,s2,fun b hb=>(s4 b hb).imp (fun h=>⟨h.2.1,h.2.2⟩) id,s5⟩
 obtain ⟨S,hS⟩:=Classical.axiomOfChoice each
 have hmk:∀ j,mk (insL 0 r) j=(r[j]?).map (·.1):=fun j=>by simpa using insL_at r 0 j
 have hval:∀ {j:Nat} {x:Value},vals[j]?=some x->vals.getD j undef=x:=fun {j x} hx=>by
  simp [Array.getD_eq_getD_getElem?,hx]
 let G:Nat->FP:=fun j b=>∃ q,r[j]?=some q/\(S j).2.2 b
 have hA:Args cx I B F1 NN (ups σ out) a w vals (insL 0 r) (lentL r) (bxsL 0 r) (fun j=>(S j).1) (fun j=>(S j).2.1) G:=by
  refine ⟨fun j K hK=>?_,fun j j' b h1 h2=>?_,fun j b hb=>?_,fun k hk=>⟨hlk k hk,hlb k hk⟩,fun j k hjk=>?_,fun j j' k h1 h2=>?_,fun j k k' h1 h2=>?_⟩
  ·rw [hmk] at hK
   obtain ⟨q,hq,rfl⟩:=Option.map_eq_some_iff.1 hK
   obtain ⟨x,hx,s1,s2,s4,s5⟩:=hS j q hq
   refine ⟨(Array.getElem?_eq_some_iff.1 hx).1,?_⟩
   rw [hval hx]
   have:=s1.turn (I':=I') (σ':=mk (insL 0 r)) (U':=fun j=>(S j).1) (B':=fun j=>(S j).2.1) (t':=j) (K':=q.1) rfl rfl rfl rfl s2 (fun _ _ _ _ _ h=>h)
   obtain ⟨t1,⟨N',t2,t3,t4⟩,t5⟩:=this
   exact ⟨t1,⟨N',t2,t3,fun o b hb=>⟨⟨q,hq,(t4 o b hb).1⟩,(t4 o b hb).2⟩⟩,fun b hb=>⟨q,hq,t5 b hb⟩⟩
  ·obtain ⟨q,hq,h1⟩:=h1
   obtain ⟨q',hq',h2⟩:=h2
   obtain ⟨x,hx,s1,s2,s4,s5⟩:=hS j q hq
   obtain ⟨x',hx',s1',s2',s4',s5'⟩:=hS j' q' hq'
   rcases s4 b h1 with ⟨_,o,g1⟩ | ⟨k,e1,g1,_⟩<;>rcases s4' b h2 with ⟨_,o',g2⟩ | ⟨k',e2,g2,_⟩
   ·exact (hG.dis _ _ _ _ _ g1 g2).1
   ·obtain ⟨K,z1,_⟩:=s5' k' e2
    have:=hR.dis _ _ _ (hG.sub _ _ b g1).1 g2
    have:=(hR.key k' K z1).1
    omega
   ·obtain ⟨K,z1,_⟩:=s5 k e1
    have:=hR.dis _ _ _ (hG.sub _ _ b g2).1 g1
    have:=(hR.key k K z1).1
    omega
   ·have:=hR.dis _ _ _ g1 g2
    subst this
    have m1:=(hbm j k).2 ⟨q,hq,e1⟩
    have m2:=(hbm j' k).2 ⟨q',hq',e2⟩
    obtain ⟨i1,m1⟩:=List.getElem?_of_mem m1
    obtain ⟨i2,m2⟩:=List.getElem?_of_mem m2
    have:=nodupB_inj _ k2 i1 i2 _ _ m1 m2 rfl
    subst this
    rw [m1] at m2
    exact congrArg Prod.fst (Option.some.inj m2)
  ·obtain ⟨q,hq,hb⟩:=hb
   obtain ⟨x,hx,s1,s2,s4,s5⟩:=hS j q hq
   rcases s4 b hb with ⟨_,o,g1⟩ | ⟨k,e1,g1,g2⟩
   ·exact .inl (hG.sub _ _ b g1).1
   ·exact .inr ⟨k,(hbm j k).2 ⟨q,hq,e1⟩,g1,fun K1 hK1=>by rw [hmk,hq] at hK1;cases hK1;exact g2⟩
  ·obtain ⟨q,hq,e1⟩:=(hbm j k).1 hjk
   obtain ⟨x,hx,s1,s2,s4,s5⟩:=hS j q hq
   obtain ⟨K,z1,z2,z3,z4,z5,z6⟩:=s5 k e1
   exact ⟨K,q.1,z1,z2,by rw [hmk,hq];rfl,z3,z4,z5,by rw [hval hx];exact z6,(Array.getElem?_eq_some_iff.1 hx).1⟩
  ·obtain ⟨i1,m1⟩:=List.getElem?_of_mem h1
   obtain ⟨i2,m2⟩:=List.getElem?_of_mem h2
   have:=nodupB_inj _ k2 i1 i2 _ _ m1 m2 rfl
   subst this
   rw [m1] at m2
   exact congrArg Prod.fst (Option.some.inj m2)
  ·obtain ⟨q,hq,e1⟩:=(hbm j k).1 h1
   obtain ⟨q',hq',e2⟩:=(hbm j k').1 h2
   rw [hq] at hq';cases hq'
   rw [e1] at e2
   exact Option.some.inj e2
 have hent:=args_entry hR hA
 have hvs:vals.size=args.size+caps.length:=by simp [vals,hvn]
 rw [hvs] at hent
 have hcall:=hf _ _ vals w hvs hent
 cases hKr:mk l (args.size+caps.length) with
 | none=>rw [hKr] at k5;cases k5
 | some Kr =>
  rw [hKr] at k5
  have hsh2:lentL r≠[]->shOf l (args.size+caps.length)/\boxSh l (bxsL 0 r):=fun hne=>by
   unfold callSh at hsh
   split at hsh
   ·rename_i h0;exact absurd h0 hne
   ·exact hsh
  have hpl:plainK Kr=true->Kr.cells.all isC=true/\(lentL r≠[]->noShL Kr.cells):=fun hk=>⟨hk,fun hne=>by
   have:=(hsh2 hne).1
   unfold shOf at this
   rwa [hKr] at this⟩
  have hbx:∀ j k,(j,k)∈bxsL 0 r->∃ cells lg K1,mk l j=some ⟨.box,cells,lg⟩/\cells.all isC=true/\(lentL r≠[]->noShL cells)/\mk (insL 0 r) j=some K1/\cells.length=K1.cells.length:=fun j k hjk=>by
   have h4:=List.all_eq_true.1 k4 _ hjk
   simp only at h4
   split at h4
   ·rename_i K hK
    simp only [Bool.and_eq_true,beq_iff_eq] at h4
    obtain ⟨sh,cells,lg⟩:=K
    obtain ⟨⟨h5,h6⟩,h7⟩:=h4
    simp only at h5
    subst h5
    split at h7
    ·rename_i K1 hK1
     refine ⟨cells,lg,K1,hK,h6,fun hne=>?_,hK1,sameLen_eq h7⟩
     have:=boxSh_at _ (hsh2 hne).2 j k hjk
     unfold shOf at this
     rwa [hK] at this
    ·cases h7
   ·cases h4
  have hfin:∀ v w',(∃ l',l'=l/\Rel ⟨cx.P,args.size+caps.length+1,w,mayW cx B F1 NN (insL 0 r) (bxsL 0 r),I',(bxsL 0 r).map (·.1),vals⟩ (mk l') ⟨vals.push v,[]⟩ w')->K (a.put (some d) v) w':=by
   rintro v w' ⟨l',rfl,hrel⟩
   refine hK _ _ (args_exit hR hNN hD hA (hdn d hd) hdb (bx:=(bxsL 0 r).map (·.1)) (by rw [hvs];exact hrel) (by rw [hvs];exact hKr) (hpl k5).1 (hpl k5).2 hbx ?_ (fun j k K0 cells lg hjk hK0 hcl=>?_) (fun t ht hb=>?_))
   ·simp only [callOuts,hKr,ups_append,ups]
    simp [up]
   ·have hkd:k≠d:=fun e=>hdb j (e▸hjk)
    simp only [callOuts,ups_append,ups]
    simp only [up,hkd,if_false]
    exact (boxOuts_at _ _ _ k2).1 j K0 _ hjk hK0 hcl
   ·simp only [callOuts,ups_append,ups]
    simp only [up,ht,if_false]
    exact (boxOuts_at _ _ _ k2).2 hb
  unfold Oper.wp execOp
  have hres:(resolve a.eval ⟨.value cl,args,ats⟩ o.type).run cx.P w=.ok ⟨.fn (.func f) vs,args.map a.eval⟩ w:=by
   simp [resolve,hcl,Deferred.ofValue]
  simp only [ho,Sem.run_bind,hres,Result.andThen_ok,invoke]
  unfold CallsTo at hcall
  have hvv:args.map a.eval++vs=vals:=rfl
  rw [hvv]
  generalize (callFunc f vals).run cx.P w=res at hcall ⊢
  cases res with
  | ok n w' =>
   cases n<;>simp only [Oper.upon] at hcall ⊢<;>try (exact hcall.elim)
   case value v=>rw [hd];exact hfin v w' hcall
   case enter g as =>
    refine Calls.mono hcall fun e w'' ⟨v,h1,h2⟩=>?_
    subst h1
    rw [hd]
    exact hfin v w'' h2
   case row row as=>refine Rows.mono hcall fun v w'' h2=>?_;rw [hd];exact hfin v w'' h2
  | halt x w'=>exact hcall.elim
theorem flatMap_congr' {α β:Type} {f g:α->List β}:∀ {l:List α},(∀ x∈l,f x=g x)->l.flatMap f=l.flatMap g
 | [],_=>rfl
 | x::r,h=>by rw [List.flatMap_cons,List.flatMap_cons,h x (by simp),flatMap_congr' fun y hy=>h y (by simp [hy])]
theorem lend0_same {σ σ':St} {x:SC} (h:∀ k∈lent0 0 x,σ' k=σ k):lend0 σ' x=lend0 σ x:=by
 cases x with
 | v e k o p n r =>
  have hk2:σ' k=σ k:=h k (by simp [lent0])
  simp only [lend0,rowsF,hk2]
 | p e k o p n i j =>
  have hk2:σ' k=σ k:=h k (by simp [lent0])
  simp only [lend0,rowsF,hk2]
 | _=>rfl
theorem lendN_same {σ σ':St}:∀ (m t:Nat) {x:SC},(∀ k∈lentN σ m t x,σ' k=σ k)->lendN σ' m x=lendN σ m x/\lentN σ' m t x=lentN σ m t x:=by
 have base:∀ (t:Nat) {x:SC},(∀ k∈lent0 t x,σ' k=σ k)->lend0 σ' x=lend0 σ x:=fun t x h=>by
  cases x with
  | v e k o p n r=>exact lend0_same h
  | p e k o p n i j=>exact lend0_same h
  | _=>rfl
 intro m
 induction m with
 | zero=>intro t x h;exact ⟨base t h,rfl⟩
 | succ m ih =>
  intro t x h
  cases x with
  | fn f ks =>
   simp only [lentN] at h
   have hq:∀ q∈ks,σ' q.1=σ q.1/\(∀ K,σ q.1=some K->∀ y∈K.cells,lendN σ' m y=lendN σ m y/\lentN σ' m q.1 y=lentN σ m q.1 y):=fun q hq=>by
    refine ⟨h q.1 (List.mem_flatMap.2 ⟨q,hq,List.mem_cons_self ..⟩),fun K hK y hy=>ih q.1 fun k hk=>?_⟩
    exact h k (List.mem_flatMap.2 ⟨q,hq,List.mem_cons_of_mem _ (by simp only [hK];exact List.mem_flatMap.2 ⟨y,hy,hk⟩)⟩)
   constructor
   ·simp only [lendN]
    congr 1
    refine List.map_congr_left fun q hq'=>?_
    obtain ⟨e1,e2⟩:=hq q hq'
    unfold boxRow
    rw [e1]
    split
    ·rename_i cells lg hk
     split
     ·rfl
     ·congr 1
      exact List.map_congr_left fun y hy=>(e2 _ hk y hy).1
    ·rfl
   ·simp only [lentN]
    refine flatMap_congr' fun q hq'=>?_
    obtain ⟨e1,e2⟩:=hq q hq'
    rw [e1]
    congr 1
    split
    ·rename_i K hk
     exact flatMap_congr' fun y hy=>(e2 _ hk y hy).2
    ·rfl
  | _=>simp only [lentN] at h;exact ⟨base t h,rfl⟩
theorem sub_lendIn {σ σ':St} (h:Sub σ σ') {x:Operand} {q:Inn} (hs:lendIn σ x=some q):lendIn σ' x=some q:=by
 cases x with
 | tmp t =>
  simp only [lendIn] at hs ⊢
  cases hk:σ t with
  | none=>rw [hk] at hs;cases hs
  | some K =>
   simp only [hk] at hs
   simp only [h t K hk]
   split at hs
   ·rename_i hc
    have same:∀ k∈K.cells.flatMap (lentC σ t),σ' k=σ k:=fun k hk'=>by
     have:=hc.2 k hk'
     cases hk2:σ k with
     | none=>rw [hk2] at this;cases this
     | some K2=>exact h k K2 hk2
    have both:∀ y∈K.cells,lendC σ' y=lendC σ y/\lentC σ' t y=lentC σ t y:=fun y hy =>
     lendN_same 2 t fun k hk'=>same k (List.mem_flatMap.2 ⟨y,hy,hk'⟩)
    have hl:K.cells.flatMap (lentC σ' t)=K.cells.flatMap (lentC σ t):=flatMap_congr' fun y hy=>(both y hy).2
    rw [hl,if_pos ⟨hc.1,fun k hk'=>by rw [same k hk'];exact hc.2 k hk'⟩]
    have:(K.cells.map fun y=>SC.c (lendC σ' y))=K.cells.map fun y=>SC.c (lendC σ y) :=
     List.map_congr_left fun y hy=>by rw [(both y hy).1]
    rw [this];exact hs
   ·cases hs
 | const v =>
  unfold lendIn at hs ⊢
  simp only at hs ⊢
  have:arg1 σ' (.const v)=arg1 σ (.const v):=by cases v<;>rfl
  rw [this];exact hs
 | func f=>exact hs
 | global g=>exact hs
theorem lenA_same {σ σ':St} {t:Nat} {y:SC} (h:∀ k∈lentC σ t y,σ' k=σ k):lenA σ' y=lenA σ y:=by
 cases y with
 | c x=>cases x<;>rfl
 | v e k o p n r =>
  have hk2:σ' k=σ k:=h k (by simp [lentC,lentN,lent0])
  cases r with
  | some r=>rfl
  | none=>simp only [lenA,rowsAt,hk2]
 | _=>rfl
theorem sub_lenIn {σ σ':St} (h:Sub σ σ') {x:Operand} {q:Inn} (hs:lenIn σ x=some q):lenIn σ' x=some q:=by
 cases x with
 | tmp t =>
  simp only [lenIn] at hs ⊢
  cases hk:σ t with
  | none=>rw [hk] at hs;cases hs
  | some K =>
   simp only [hk] at hs
   simp only [h t K hk]
   split at hs
   ·rename_i hc
    have same:∀ k∈K.cells.flatMap (lentC σ t),σ' k=σ k:=fun k hk'=>by
     have:=hc.2 k hk'
     cases hk2:σ k with
     | none=>rw [hk2] at this;cases this
     | some K2=>exact h k K2 hk2
    have both:∀ y∈K.cells,lentC σ' t y=lentC σ t y:=fun y hy =>
     (lendN_same 2 t fun k hk'=>same k (List.mem_flatMap.2 ⟨y,hy,hk'⟩)).2
    have hl:K.cells.flatMap (lentC σ' t)=K.cells.flatMap (lentC σ t):=flatMap_congr' both
    rw [hl,if_pos ⟨hc.1,fun k hk'=>by rw [same k hk'];exact hc.2 k hk'⟩]
    have:(K.cells.map fun y=>SC.c (lenA σ' y))=K.cells.map fun y=>SC.c (lenA σ y) :=
     List.map_congr_left fun y hy=>by rw [lenA_same (t:=t) fun k hk'=>same k (List.mem_flatMap.2 ⟨y,hy,hk'⟩)]
    rw [this];exact hs
   ·cases hs
 | const v=>exact hs
 | func f=>exact hs
 | global g=>exact hs
theorem sub_argIn {σ σ':St} (h:Sub σ σ') {x:Operand} {md:Md} {g:Given} {q:Inn} (hs:argIn σ x md g=some q):argIn σ' x md g=some q:=by
 cases g with
 | some g=>exact hs
 | none =>
  have ptr:∀ c,ptrIn σ x c=some q->ptrIn σ' x c=some q:=fun c hs=>by
   unfold ptrIn at hs ⊢
   split at hs
   ·rename_i k n h1
    simp only [sub_one1 h h1]
    cases hk:σ k with
    | none=>rw [hk] at hs;cases hs
    | some K=>rw [hk] at hs;simp only [h k K hk];exact hs
   ·cases hs
  cases md with
  | ptr=>exact ptr none hs
  | part c=>exact ptr (some c) hs
  | give=>exact sub_lendIn h hs
  | lend=>exact sub_lendIn h hs
  | len=>exact sub_lenIn h hs
theorem sub_argsIn {σ σ':St} (h:Sub σ σ'):∀ (ps:List (Operand×Md)) (gs:List Given) {r:List Inn},argsIn σ ps gs=some r->argsIn σ' ps gs=some r:=by
 intro ps
 induction ps with
 | nil=>intro gs r hs;exact hs
 | cons p ps ih =>
  intro gs r hs
  obtain ⟨x,md⟩:=p
  cases gs with
  | nil=>exact hs
  | cons g gs =>
   simp only [argsIn] at hs ⊢
   split at hs
   ·rename_i q hq
    simp only [sub_argIn h hq]
    split at hs
    ·rename_i r' hr
     simp only [ih gs hr];exact hs
    ·cases hs
   ·cases hs
theorem argIn_box {σ:St} {x:Operand} {md:Md} {g:Given} {q:Inn} (hq:argIn σ x md g=some q) {k:Nat} (hk:q.2.2=some k):∃ K,σ k=some K:=by
 have lend:lendIn σ x=some q->∃ K,σ k=some K:=by
  clear hq
  intro hq
  unfold lendIn at hq
  split at hq
  ·split at hq
   ·split at hq
    ·injection hq with hq;subst hq;cases hk
    ·cases hq
   ·cases hq
  ·split at hq
   ·injection hq with hq;subst hq;cases hk
   ·split at hq
    ·injection hq with hq;subst hq;cases hk
    ·cases hq
   ·cases hq
 cases g with
 | some g=>obtain ⟨sh,xs⟩:=g;simp only [argIn] at hq;injection hq with hq;subst hq;cases hk
 | none =>
  have ptr:∀ c,ptrIn σ x c=some q->∃ K,σ k=some K:=fun c hq=>by
   unfold ptrIn at hq
   split at hq
   ·split at hq
    ·rename_i K hK
     split at hq
     ·injection hq with hq;subst hq;cases hk;exact ⟨K,hK⟩
     ·cases hq
    ·cases hq
   ·cases hq
  cases md with
  | ptr=>exact ptr none hq
  | part c=>exact ptr (some c) hq
  | len =>
   replace hq:lenIn σ x=some q:=hq
   unfold lenIn at hq
   split at hq
   ·split at hq
    ·split at hq
     ·injection hq with hq;subst hq;cases hk
     ·cases hq
    ·cases hq
   ·cases hq
  | give=>exact lend hq
  | lend=>exact lend hq
theorem boxOuts_sub {σ σ':St} (h:Sub σ σ') (l:L):∀ (bs:List (Nat×Nat)),(∀ j k,(j,k)∈bs->∃ K,σ k=some K)->boxOuts σ' l bs=boxOuts σ l bs:=by
 intro bs
 induction bs with
 | nil=>intro _;rfl
 | cons p bs ih =>
  intro hb
  obtain ⟨j,k⟩:=p
  obtain ⟨K,hK⟩:=hb j k (List.mem_cons_self ..)
  simp only [boxOuts,hK,h k K hK,ih (fun j' k' hm=>hb j' k' (List.mem_cons_of_mem _ hm))]
theorem ops_call (hi:ops[i]?=some o) (hw:Want ops σ o.guard true) {d:Nat} {f:FuncId} {caps:List CV} {s0:SC} {cl:Operand} {args:Array Operand} {ats:Array TypeId} (hd:o.dst=some d) (ho:o.op=.call ⟨.value cl,args,ats⟩) (hcl:one1 σ cl=some s0) (hce:calleeOf s0=some (f,caps)) (mds:List Md) (hml:mds.length=args.size) {gs:List Given} {out:L} {r:List Inn}
  (hg:passG σ (args.toList.zip mds)=some (gs,out)) (hin:argsIn (ups σ out) (args.toList.zip mds) gs=some r) (hob:argsOb (ups σ out) args.toList) {l:L} (hck:callCk d (args.size+caps.length) l (r++capsL caps)=true) (hsh:callSh (args.size+caps.length) l (r++capsL caps)) (hf:FunOK P f (args.size+caps.length) ((bxsL 0 (r++capsL caps)).map (·.1)) (insL 0 (r++capsL caps)) (·=l)) :
  OpS P S ops i σ (callOuts σ d (args.size+caps.length) out l (r++capsL caps)):=by
 refine ops_on hi hw fun σ' hs hl=>?_
 have hs1:=sub_ups out hs
 have he:callOuts σ' d (args.size+caps.length) out l (r++capsL caps)=callOuts σ d (args.size+caps.length) out l (r++capsL caps):=by
  unfold callOuts
  rw [boxOuts_sub hs1 l _ (fun j k hm=>?_),logAt_ups (hl d hd)]
  obtain ⟨_,q,hq,hk⟩:=(bxsL_mem (r++capsL caps) 0 j k).1 hm
  rcases List.mem_append.1 (List.mem_of_getElem? hq) with hq | hq
  ·obtain ⟨j',hq⟩:=List.getElem?_of_mem hq
   obtain ⟨x,md,g,_,_,h3⟩:=(argsIn_at _ _ _ hin).2 _ q hq
   exact argIn_box h3 hk
  ·obtain ⟨c,_,rfl⟩:=List.mem_map.1 hq
   cases hk
 rw [<- he]
 exact snd_call hd ho (sub_one1 hs hcl) hce hml (sub_passG _ hs hg) (sub_argsIn hs1 _ _ hin) (argsOb_sub hs1 hob) hck hsh hf
end
end Go.Proofs.AI
namespace Go.Proofs.AI
open Go.RowKit
set_option linter.unusedVariables false
set_option linter.unusedSimpArgs false
def partAt:List (Bool×Nat)->Nat->Nat->Option (Bool×Nat×Nat)
 | [],_,_=>none
 | (b,m)::_,0,off=>some (b,off,m)
 | (_,m)::r,ix+1,off=>partAt r ix (off+m)
def vExtract (σ:St) (x:Operand) (ix:Nat):Option Res :=
 match x with
 | .tmp t=>match σ t with
  | some K=>match K.sh with
   | .tup sig=>match partAt sig ix 0 with
    | some (false,off,_)=>match K.cells[off]? with
     | some y=>some (.one (look t off K.log.length y))
     | none=>none
    | some (true,off,m)=>if off+m<=K.cells.length then some (.agg (((K.cells.drop off).take m).mapIdx fun j y=>look t (off+j) K.log.length y)) else none
    | none=>none
   | _=>none
  | none=>none
 | _=>none
theorem tupParts_at:∀ (sig:List (Bool×Nat)) (us:Nat->Value) (ix off:Nat) {b:Bool} {o m:Nat},partAt sig ix off=some (b,o,m)->off<=o/\(tupParts sig (fun j=>us (off+j)))[ix]?=some (if b then .agg (Array.ofFn (n:=m) fun j=>us (o+j)) else us o):=by
 intro sig
 induction sig with
 | nil=>intro us ix off b o m h;simp [partAt] at h
 | cons p r ih =>
  intro us ix off b o m h
  obtain ⟨c,k⟩:=p
  cases ix with
  | zero =>
   simp only [partAt] at h
   injection h with h;injection h with h1 h2;injection h2 with h2 h3;subst h1 h2 h3
   cases c<;>simp [tupParts]
  | succ ix =>
   simp only [partAt] at h
   obtain ⟨h1,h2⟩:=ih us ix (off+k) h
   refine ⟨by omega,?_⟩
   have:(fun j=>us (off+(k+j)))=fun j=>us (off+k+j):=funext fun j=>by rw [Nat.add_assoc]
   cases c<;>simp only [tupParts,List.getElem?_cons_succ,this]<;>exact h2
section
variable {cx:Cx} {I:Nat->Prop} {U:Nat->Nat->Value} {B:Nat->Nat×Nat} {F:Nat->FP} {σ:St} {a:Act} {w:World}
theorem vExtract_ok (h:RelW cx I U B F σ a w) {x:Operand} {ix:Nat} {r:Res} (hv:vExtract σ x ix=some r):∃ v,(Instr.extract (a.eval x) ix).run cx.P w=.ok v w/\ResRep cx.P w I σ U B r v:=by
 unfold vExtract at hv
 split at hv
 ·rename_i t
  split at hv
  ·rename_i K hK
   split at hv
   ·rename_i sig hsig
    obtain ⟨_,hroot,_⟩:=h.key t K hK
    have hroot2:=hroot.2
    simp only [hsig] at hroot2
    have hev:a.eval (.tmp t)=.tuple (tupParts sig (U t)).toArray:=hroot2
    have hpart:∀ {b o m},partAt sig ix 0=some (b,o,m)->(tupParts sig (U t))[ix]?=some (if b then .agg (Array.ofFn (n:=m) fun j=>U t (o+j)) else U t o):=fun {b o m} hp=>by
     have:=(tupParts_at sig (U t) ix 0 hp).2
     simpa using this
    have hrun:∀ {v},(tupParts sig (U t))[ix]?=some v->(Instr.extract (a.eval (.tmp t)) ix).run cx.P w=.ok v w:=fun {v} hv=>by
     rw [hev]
     simp [Instr.extract,hv]
    split at hv
    ·rename_i off m hp
     split at hv
     ·rename_i y hy
      injection hv with hv;subst hv
      exact ⟨_,hrun (hpart hp),look_rep h hK hy⟩
     ·cases hv
    ·rename_i off m hp
     split at hv
     ·rename_i hle
      injection hv with hv;subst hv
      refine ⟨_,hrun (hpart hp),_,rfl,by simp;omega,fun j s hs=>?_⟩
      rw [List.getElem?_mapIdx] at hs
      obtain ⟨y,hy,rfl⟩:=Option.map_eq_some_iff.1 hs
      rw [List.getElem?_take,List.getElem?_drop] at hy
      split at hy
      ·rename_i hj
       exact ⟨U t (off+j),by simp [Array.getElem?_ofFn,hj],look_rep h hK hy⟩
      ·cases hy
     ·cases hv
    ·cases hv
   ·cases hv
  ·cases hv
 ·cases hv
theorem sub_vExtract {σ σ':St} (h:Sub σ σ') {x:Operand} {ix:Nat} {r:Res} (hv:vExtract σ x ix=some r):vExtract σ' x ix=some r:=by
 unfold vExtract at hv ⊢
 split at hv
 ·rename_i t
  cases hk:σ t with
  | none=>rw [hk] at hv;cases hv
  | some K=>rw [hk] at hv;simp only [h t K hk];exact hv
 ·cases hv
end
section
variable {P:Program} {S:List Nat} {ops:Array Oper} {i:Nat} {o:Oper} {σ:St}
def resOut (σ:St) (d:Nat):Res->L
 | .one x=>[(d,⟨.one,[x],logAt σ d⟩)]
 | .agg xs=>[(d,⟨.agg,xs,logAt σ d⟩)]
theorem ops_extract (hi:ops[i]?=some o) (hw:Want ops σ o.guard true) {d:Nat} (hd:o.dst=some d) {x:Operand} {ix:Nat} (ho:o.op=.extract x ix) {r:Res} (h:vExtract σ x ix=some r):OpS P S ops i σ (resOut σ d r):=by
 refine ops_on hi hw fun σ' hs hl=>?_
 have hv:=sub_vExtract hs h
 have hrun:∀ {a:Act} {w:World} {v:Value},(Instr.extract (a.eval x) ix).run P w=.ok v w->(execOp a.eval o).run P w=.ok (.value v) w:=fun {a w v} hv=>by
  unfold execOp
  simp only [ho,Sem.run_bind,hv,Result.andThen_ok,Sem.run_pure]
 cases r with
 | one y =>
  simp only [resOut,ups]
  rw [show logAt σ d=logAt σ' d by unfold logAt;rw [hl d hd]]
  refine snd_one hd fun cx I U B F a w hP hr=>?_
  subst hP
  obtain ⟨v,h1,h2⟩:=vExtract_ok hr hv
  exact ⟨v,hrun h1,h2⟩
 | agg ys =>
  simp only [resOut,ups]
  rw [show logAt σ d=logAt σ' d by unfold logAt;rw [hl d hd]]
  refine snd_agg hd fun cx I U B F a w hP hr=>?_
  subst hP
  obtain ⟨v,h1,arr,h2,h3,h4⟩:=vExtract_ok hr hv
  subst h2
  exact ⟨arr,hrun h1,h3,h4⟩
def vMoveT (σ:St) (d:Nat):Operand->Option L
 | .tmp t=>match σ t with
  | some ⟨.tup sig,cells,log⟩=>some [(d,⟨.tup sig,cells.mapIdx fun j y=>look t j log.length y,logAt σ d⟩)]
  | _=>none
 | _=>none
theorem ops_moveT (hi:ops[i]?=some o) (hw:Want ops σ o.guard true) {d:Nat} (hd:o.dst=some d) {x:Operand} (ho:o.op=.move x) {out:L} (h:vMoveT σ d x=some out):OpS P S ops i σ out:=by
 unfold vMoveT at h
 split at h
 ·rename_i t
  split at h
  ·rename_i sig cells log hK
   injection h with h;subst h
   refine ops_on hi hw fun σ' hs hl=>?_
   simp only [ups]
   rw [show logAt σ d=logAt σ' d by unfold logAt;rw [hl d hd]]
   have hK:=hs t _ hK
   intro cx a w hP ⟨I,U,B,F,hr⟩ hdn K Q hQ
   obtain ⟨_,hroot,_⟩:=hr.key t _ hK
   have hv:a.eval (.tmp t)=.tuple (tupParts sig (U t)).toArray:=hroot.2
   unfold Oper.wp
   have hrun:(execOp a.eval o).run P w=.ok (.value (a.eval (.tmp t))) w:=by
    unfold execOp
    simp only [ho,Sem.run_pure]
   rw [hrun,Oper.upon_value,hd]
   have hrep:∀ (o:Nat) s,(cells.mapIdx fun j y=>look t j log.length y)[o]?=some s->SCRep cx.P w I σ' U B s (U t o) FP.none:=fun o s hs=>by
    rw [List.getElem?_mapIdx] at hs
    obtain ⟨y,hy,rfl⟩:=Option.map_eq_some_iff.1 hs
    exact look_rep hr hK hy
   refine hQ _ _ ⟨I,_,_,_,(held_none hr).put (hdn d hd) (us:=U t) (bb:=(0,0)) (Fr.refl _ _) (fun _ _ _=>rfl) ⟨fun o ho=>?_,hv⟩
    ⟨fun _=>FP.none,hrep,fun _ _ _ h=>h.elim,fun _ _ h=>h.elim⟩ (fun b hb=>by simp [rootFP] at hb) (fun b hb=>by simp [FP.none] at hb)⟩
   exact (hrep o _ (List.getElem?_eq_getElem ho)).one
  ·cases h
 ·cases h
end
end Go.Proofs.AI
namespace Go.Proofs.AI
open Go.RowKit
set_option linter.unusedVariables false
set_option linter.unusedSimpArgs false
def boxesL (σ:St):List Nat->Option L
 | []=>some []
 | j::r=>match σ j with
  | some K=>if K.sh=.box then match boxesL σ r with
   | some l=>some ((j,⟨.box,K.cells.map boxC,[]⟩)::l)
   | none=>none
   else none
  | none=>none
theorem boxesL_at {σ:St}:∀ (bx:List Nat) {l:L},boxesL σ bx=some l->∀ j K,mk l j=some K->j∈bx/\∃ K0,σ j=some K0/\K0.sh=.box/\K=⟨.box,K0.cells.map boxC,[]⟩:=by
 intro bx
 induction bx with
 | nil =>
  intro l h j K hK
  simp only [boxesL] at h
  injection h with h;subst h
  simp [mk] at hK
 | cons i r ih =>
  intro l h j K hK
  simp only [boxesL] at h
  split at h
  ·rename_i K0 hK0
   split at h
   ·rename_i hb
    split at h
    ·rename_i l' hl
     injection h with h;subst h
     simp only [mk,up] at hK
     by_cases e:j=i
     ·subst e
      rw [if_pos rfl] at hK
      injection hK with hK
      exact ⟨List.mem_cons_self ..,K0,hK0,hb,hK.symm⟩
     ·rw [if_neg e] at hK
      obtain ⟨h1,h2⟩:=ih hl j K hK
      exact ⟨List.mem_cons_of_mem _ h1,h2⟩
    ·cases h
   ·cases h
  ·cases h
section
variable {cx:Cx} {I:Nat->Prop} {U:Nat->Nat->Value} {B:Nat->Nat×Nat} {F:Nat->FP} {σ:St} {a:Act} {w:World}
theorem exit_rel (h:RelW cx I U B F σ a w) (hpin:∀ t∈cx.pn,a.tmps.getD t undef=cx.args.getD t undef) (hlt:∀ t∈cx.pn,t<cx.args.size) {lb:L} (hlb:boxesL σ cx.pn=some lb) {Kr:Ky} {v:Value} {us:Nat->Value} {N:Nat->FP}
  (hroot:RootAt w Kr v us (0,0)) (hsh:Kr.sh≠.box) (hc:Kr.cells.all isC=true) (hrep:∀ (o:Nat) y,Kr.cells[o]?=some (.c y)->Rep cx.P w I y (us o) (N o)) (hdis:∀ o o' b,N o b->N o' b->o=o') (hsub:∀ o b,N o b->F cx.n b) :
  Rel ⟨cx.P,cx.args.size+1,cx.w0,cx.F0,cx.I0,cx.pn,cx.args⟩ (mk ((cx.args.size,Kr)::lb)) ⟨cx.args.push v,[]⟩ w:=by
 let m:=cx.args.size
 let U':Nat->Nat->Value:=fun t=>if t=m then us else U t
 let B':Nat->Nat×Nat:=fun t=>if t=m then (0,0) else B t
 let F':Nat->FP:=fun t=>if t=m then (fun b=>∃ o,N o b) else if t∈cx.pn/\(σ t).isSome=true then F t else FP.none
 have hne:∀ {t},t∈cx.pn->t≠m:=fun {t} ht e=>by have:=hlt t ht;omega
 have Fat:∀ t b,F' t b->(t=m/\∃ o,N o b)∨(t≠m/\t∈cx.pn/\(∃ K,σ t=some K)/\F t b):=fun t b hb=>by
  simp only [F'] at hb
  split at hb
  ·exact .inl ⟨‹_›,hb⟩
  ·split at hb
   ·rename_i h1 h2
    refine .inr ⟨h1,h2.1,?_,hb⟩
    cases hk:σ t with
    | none=>rw [hk] at h2;cases h2.2
    | some K=>exact ⟨K,rfl⟩
   ·exact hb.elim
 refine ⟨I,U',B',F',by simp,rfl,fun t K hK=>?_,fun t t' b h1 h2=>?_,fun t b hb=>?_,fun t b hb=>?_,h.ro,h.ro0,h.roN,h.fr⟩
 ·simp only [mk,up] at hK
  split at hK
  ·rename_i e
   injection hK with hK;subst hK
   subst e
   refine ⟨Nat.lt_succ_self _,?_⟩
   have hv:(cx.args.push v).getD cx.args.size undef=v:=by simp [Array.getD_eq_getD_getElem?]
   rw [hv]
   refine ⟨by simpa [U',B',m] using hroot,⟨N,fun o y hy=>?_,hdis,fun o b hb=>⟨?_,fun hr=>hsh hr.1⟩⟩,fun b hb=>absurd hb.1 hsh⟩
   ·have hic:=List.all_eq_true.1 hc y (List.mem_of_getElem? hy)
    cases y with
    | c z =>
     simp only [U',m,if_true]
     exact hrep o z hy
    | _=>simp [isC] at hic
   ·simp only [F',m,if_true];exact ⟨o,hb⟩
  ·rename_i e
   obtain ⟨h1,K0,h2,h3,rfl⟩:=boxesL_at _ hlb t K hK
   obtain ⟨htn,hroot0,⟨N0,n1,n2,n3⟩,hrf⟩:=h.key t K0 h2
   have htm:=hlt t h1
   refine ⟨Nat.lt_succ_of_lt htm,?_⟩
   have hv:(cx.args.push v).getD t undef=a.tmps.getD t undef:=by
    rw [hpin t h1]
    simp only [Array.getD_eq_getD_getElem?,Array.getElem?_push_lt htm,Array.getElem?_eq_getElem htm]
   rw [hv]
   have e1:U' t=U t:=by simp only [U'];rw [if_neg (hne h1)]
   have e2:B' t=B t:=by simp only [B'];rw [if_neg (hne h1)]
   have e3:F' t=F t:=by simp only [F'];rw [if_neg (hne h1),if_pos ⟨h1,by rw [h2];rfl⟩]
   rw [e3]
   refine ⟨⟨fun o ho=>by rw [e1];exact hroot0.1 o (by simpa using ho),?_⟩,⟨fun o=>if (K0.cells[o]?).any isC then N0 o else FP.none,fun o y hy=>?_,fun o o' b g1 g2=>?_,fun o b hb=>?_⟩,fun b hb=>hrf b ⟨h3,by rw [<- e2];exact hb.2⟩⟩
   ·have h5:=hroot0.2
    simp only [h3] at h5
    rw [e1,e2]
    simpa using h5
   ·simp only [List.getElem?_map] at hy
    obtain ⟨y',hy',rfl⟩:=Option.map_eq_some_iff.1 hy
    have hr:=n1 o y' hy'
    rw [e1]
    cases y' with
    | c z=>simp only [hy',Option.any_some,isC,if_true,boxC];exact hr
    | _=>simp only [boxC];exact Rep.any hr.one
   ·dsimp only at g1 g2
    split at g1
    ·split at g2
     ·exact n2 _ _ _ g1 g2
     ·exact g2.elim
    ·exact g1.elim
   ·dsimp only at hb
    split at hb
    ·obtain ⟨m1,m2⟩:=n3 o b hb
     exact ⟨m1,fun hr=>m2 ⟨h3,by rw [<- e2];exact hr.2⟩⟩
    ·exact hb.elim
 ·rcases Fat t b h1 with ⟨rfl,o,g1⟩ | ⟨q1,q2,⟨K,q3⟩,g1⟩<;>rcases Fat t' b h2 with ⟨rfl,o',g2⟩ | ⟨p1,p2,⟨K',p3⟩,g2⟩
  ·rfl
  ·have:=h.dis _ _ _ (hsub o b g1) g2
   have:=(h.key _ _ p3).1
   omega
  ·have:=h.dis _ _ _ (hsub o' b g2) g1
   have:=(h.key _ _ q3).1
   omega
  ·exact h.dis _ _ _ g1 g2
 ·rcases Fat t b hb with ⟨rfl,o,g1⟩ | ⟨q1,q2,⟨K,q3⟩,g1⟩
  ·exact h.own _ _ (hsub o b g1)
  ·exact h.own _ _ g1
 ·rcases Fat t b hb with ⟨rfl,o,g1⟩ | ⟨q1,q2,⟨K,q3⟩,g1⟩
  ·rcases h.may _ b (hsub o b g1) with h1 | h1 | ⟨K,h1,_⟩
   ·exact .inl h1
   ·exact .inr (.inl h1)
   ·exact absurd (h.key _ _ h1).1 (Nat.lt_irrefl _)
  ·rcases h.may t b g1 with h1 | h1 | ⟨K1,h1,h2,h3⟩
   ·exact .inl h1
   ·exact .inr (.inl h1)
   ·have e2:B' t=B t:=by simp only [B'];rw [if_neg q1]
    have hin:∀ (bx:List Nat) {l:L},boxesL σ bx=some l->t∈bx->mk l t=some ⟨.box,K1.cells.map boxC,[]⟩:=by
     intro bx
     induction bx with
     | nil=>intro l _ hm;simp at hm
     | cons i r ih =>
      intro l hl hm
      simp only [boxesL] at hl
      split at hl
      ·rename_i K0 hK0
       split at hl
       ·split at hl
        ·rename_i l' hl'
         injection hl with hl;subst hl
         simp only [mk,up]
         by_cases e:t=i
         ·subst e
          rw [if_pos rfl]
          rw [h1] at hK0;cases hK0;rfl
         ·rw [if_neg e]
          exact ih hl' ((List.mem_cons.1 hm).resolve_left e)
        ·cases hl
       ·cases hl
      ·cases hl
    refine .inr (.inr ⟨⟨.box,K1.cells.map boxC,[]⟩,?_,⟨rfl,by rw [e2];exact h2.2⟩,fun q g3 g4=>h3 q (by rw [e2] at g3;exact g3) (by rw [e2] at g4;simpa using g4)⟩)
    simp only [mk,up]
    rw [if_neg q1]
    exact hin _ hlb q2
end
end Go.Proofs.AI
namespace Go.Proofs.AI
open Go.RowKit
set_option linter.unusedVariables false
set_option linter.unusedSimpArgs false
def takeR (T:Tab) (σ:St):ResultVar->Option (Sh×List CV×L)
 | .tmp t=>match σ t with
  | some K=>if isVal K.sh then match grabs K.cells.length σ t 0 with
   | some (xs,o)=>some (K.sh,xs,o)
   | none=>none
   else none
  | none=>none
 | .cell t ty=>match σ t with
  | some K=>if K.sh=.box then match T ty with
   | some i=>if K.cells.length=i.size then match grabs K.cells.length σ t 0 with
    | some (xs,o)=>match i.k with
     | .st=>some (.agg,xs,o)
     | _=>if i.size=1 then some (.one,xs,o) else none
    | none=>none
    else none
   | none=>none
   else none
  | none=>none
def runR (tmps:Array Value):ResultVar->Sem Value
 | .tmp t=>pure (tmps.getD t undef)
 | .cell a t=>do loadVar t (<- asAddr (tmps.getD a undef))
section
variable {cx:Cx} {I:Nat->Prop} {U:Nat->Nat->Value} {B:Nat->Nat×Nat} {F:Nat->FP} {σ:St} {a:Act} {w:World}
theorem takeR_ok (h:RelW cx I U B F σ a w) {T:Tab} (hT:TabOk cx.P T) {rv:ResultVar} {sh:Sh} {xs:List CV} {out:L} (ht:takeR T σ rv=some (sh,xs,out)) :
  ∃ F' N us v,(runR a.tmps rv).run cx.P w=.ok v w/\isVal sh=true/\RootAt w ⟨sh,xs.map SC.c,[]⟩ v us (0,0)/\Grabbed cx I U B (ups σ out) a w (F cx.n) us xs F' N:=by
 have turn:∀ {t:Nat} {xs:List CV} {F':Nat->FP} {N:Nat->FP},Grabbed cx I U B (ups σ out) a w (F cx.n) (fun j=>U t (0+j)) xs F' N->Grabbed cx I U B (ups σ out) a w (F cx.n) (U t) xs F' N:=fun {t xs F' N} g=>by
  have:(fun j=>U t (0+j))=U t:=funext fun j=>by rw [Nat.zero_add]
  rwa [this] at g
 cases rv with
 | tmp t =>
  simp only [takeR] at ht
  split at ht
  ·rename_i K hK
   split at ht
   ·rename_i hv
    split at ht
    ·rename_i ys o hg
     injection ht with ht;injection ht with h1 h2;injection h2 with h2 h3;subst h1 h2 h3
     obtain ⟨F',N,hl,g⟩:=grabs_ok _ h hg
     obtain ⟨_,hroot,_⟩:=h.key t K hK
     refine ⟨F',N,U t,a.tmps.getD t undef,rfl,hv,⟨fun o ho=>hroot.1 o (by simpa [hl] using ho),?_⟩,turn g⟩
     have h2:=hroot.2
     cases hs:K.sh with
     | one=>simp only [hs] at h2 ⊢;simpa [hl] using h2
     | agg=>simp only [hs] at h2 ⊢;simpa [hl] using h2
     | tup sig=>simp [hs,isVal] at hv
     | box=>simp [hs,isVal] at hv
    ·cases ht
   ·cases ht
  ·cases ht
 | cell t ty =>
  simp only [takeR] at ht
  split at ht
  ·rename_i K hK
   split at ht
   ·rename_i hb
    split at ht
    ·rename_i i hi
     split at ht
     ·rename_i hsz
      split at ht
      ·rename_i ys o hg
       obtain ⟨_,hroot,_⟩:=h.key t K hK
       have hroot2:=hroot.2
       simp only [hb] at hroot2
       obtain ⟨r1,r2,cur,e,r3,r4⟩:=hroot2
       have hcell:∀ j,j<K.cells.length->w.cell? ((⟨(B t).1,(B t).2,none⟩:Addr).add j)=some (U t j):=fun j hj=>by
        rw [add_plain];simp [World.cell?,r3,r4 j hj]
       have hrun:∀ {v:Value},(Instr.loadAt ty (.pointer (some ⟨(B t).1,(B t).2,none⟩))).run cx.P w=.ok v w->(runR a.tmps (.cell t ty)).run cx.P w=.ok v w:=fun {v} hv=>by
        simp only [runR,r2,asAddr,Sem.run_bind,Sem.run_pure,Result.andThen_ok]
        simpa [Instr.loadAt,Instr.sureAddr] using hv
       split at ht
       ·rename_i hk
        injection ht with ht;injection ht with h1 h2;injection h2 with h2 h3;subst h1 h2 h3
        obtain ⟨F',N,hl,g⟩:=grabs_ok _ h hg
        refine ⟨F',N,U t,_,hrun (load_agg hT hi hk (U t) (fun j hj=>hcell j (by omega))),rfl,⟨fun o ho=>hroot.1 o (by simpa [hl] using ho),_,rfl,by simp [hl,hsz],fun o ho=>?_⟩,turn g⟩
        have:o<i.size:=by simpa [hl,hsz] using ho
        simp [this]
       ·rename_i hk
        split at ht
        ·rename_i h1s
         injection ht with ht;injection ht with h1 h2;injection h2 with h2 h3;subst h1 h2 h3
         obtain ⟨F',N,hl,g⟩:=grabs_ok _ h hg
         have h0:=hcell 0 r1
         rw [add_plain,Nat.add_zero] at h0
         refine ⟨F',N,U t,_,hrun (load_one hT hi (fun x hx he=>hk (hx.trans he)) h0),rfl,⟨fun o ho=>hroot.1 o (by simpa [hl] using ho),by simp [hl,hsz,h1s],rfl⟩,turn g⟩
        ·cases ht
      ·cases ht
     ·cases ht
    ·cases ht
   ·cases ht
  ·cases ht
end
def Leaves (cx:Cx) (fn:Func) (post:L->Prop):Exit->Act->World->Prop
 | .normal,a,w=>a.defers=[]/\∃ v l,(results fn a.tmps).run cx.P w=.ok v w/\post l/\Rel ⟨cx.P,cx.args.size+1,cx.w0,cx.F0,cx.I0,cx.pn,cx.args⟩ (mk l) ⟨cx.args.push v,[]⟩ w
 | .ret,a,w=>a.defers=[]/\∃ v l,(results fn a.tmps).run cx.P w=.ok v w/\post l/\Rel ⟨cx.P,cx.args.size+1,cx.w0,cx.F0,cx.I0,cx.pn,cx.args⟩ (mk l) ⟨cx.args.push v,[]⟩ w
 | _,_,_=>False
theorem Leaves.both {cx:Cx} {fn:Func} {post:L->Prop} {a:Act} {w:World} (h:Leaves cx fn post .ret a w):Leaves cx fn post .normal a w:=h
section
variable {cx:Cx} {σ:St} {a:Act} {w:World} {fn:Func} {post:L->Prop}
end
theorem enter_at {P:Program} {m n:Nat} {w:World} {F0:CP} {I0:Nat->Prop} {σ:St} {args:Array Value} {bx:List Nat} (hm:m<=n) (hs:args.size=m) (hbx:∀ t∈bx,t<m) (h:Rel ⟨P,m,w,F0,I0,[],#[]⟩ σ ⟨args,[]⟩ w) :
  At ⟨P,n,w,F0,I0,bx,args⟩ σ ⟨args++Array.replicate (n-args.size) undef,[]⟩ w:=by
 obtain ⟨I,U,B,F,r⟩:=h
 have hget:∀ t,t<m->(args++Array.replicate (n-args.size) undef).getD t undef=args.getD t undef:=fun t ht=>by
  simp only [Array.getD_eq_getD_getElem?]
  rw [Array.getElem?_append_left (by omega)]
 have Fat:∀ t b,(if t<m then F t else FP.none) b->F t b/\t<m:=fun t b hb=>by
  split at hb
  ·exact ⟨hb,‹_›⟩
  ·exact hb.elim
 refine ⟨⟨I,U,B,fun t=>if t<m then F t else FP.none,by simp;omega,rfl,fun t K hK=>?_,fun t t' b h1 h2=>r.dis _ _ _ (Fat _ _ h1).1 (Fat _ _ h2).1,fun t b hb=>r.own _ _ (Fat _ _ hb).1,fun t b hb=>r.may _ _ (Fat _ _ hb).1,r.ro,r.ro0,r.roN,r.fr⟩,fun t ht=>hget t (hbx t ht)⟩
 obtain ⟨h1,h2⟩:=r.key t K hK
 simp only at h1
 refine ⟨Nat.lt_of_lt_of_le h1 hm,?_⟩
 rw [hget t h1,if_pos h1]
 exact h2
theorem fun_ok {P:Program} {f m:Nat} {fn:Func} {c:Code} {bx:List Nat} {ins:L} {post:L->Prop} (hf:P.funcs[f]?=some fn) (hb:fn.body=some c) (hn:(fn.name=="runtime.NumGoroutine")=false) (hm:m<=fn.ntmps) (hbx:∀ t∈bx,t<m)
  (walk:∀ (cx:Cx) (a:Act) (w:World),cx.P=P->cx.n=fn.ntmps->cx.pn=bx->cx.args.size=m->At cx (mk ins) a w->c.wp P (Leaves cx fn post) a w):FunOK P f m bx ins post:=by
 intro F0 I0 args w hs hr
 have hrun:(callFunc f args).run P w=.ok (.enter f args) w:=by
  have hn':fn.name≠"runtime.NumGoroutine":=by simpa using hn
  simp [callFunc,program,Sem.run,hf,hn',hb]
 unfold CallsTo
 rw [hrun]
 refine calls_of_wp hf hb (wp_mono (walk ⟨P,fn.ntmps,w,F0,I0,bx,args⟩ _ w rfl rfl rfl hs (enter_at hm hs hbx hr)) fun e a' w' hq=>?_)
 subst hs
 cases e with
 | normal =>
  obtain ⟨h1,v,l,h2,h3,h4⟩:=hq
  exact ⟨h1,v,h2,v,rfl,l,h3,h4⟩
 | ret =>
  obtain ⟨h1,v,l,h2,h3,h4⟩:=hq
  exact ⟨h1,v,h2,v,rfl,l,h3,h4⟩
 | _=>exact hq.elim
end Go.Proofs.AI
namespace Go.Proofs.AI
open Go.RowKit
set_option linter.unusedVariables false
set_option linter.unusedSimpArgs false
theorem andThen_assoc {α β γ:Type} (r:Result α) (f:α->World->Result β) (g:β->World->Result γ):(r.andThen f).andThen g=r.andThen fun a w=>(f a w).andThen g:=by cases r<;>rfl
section
variable {cx:Cx} {σ:St} {a:Act} {w:World} {fn:Func} {post:L->Prop}
theorem RootAt.val {w:World} {sh:Sh} {xs:List CV} {v:Value} {us us':Nat->Value} (h:RootAt w ⟨sh,xs.map SC.c,[]⟩ v us (0,0)) (hv:isVal sh=true) (hu:∀ o,o<xs.length->us' o=us o) :
  (if sh=.agg then Value.agg (Array.ofFn (n:=xs.length) fun j=>us' j) else us' 0)=v:=by
 obtain ⟨_,h⟩:=h
 cases sh with
 | one =>
  simp only [List.length_map] at h
  simp only [reduceCtorEq,if_false]
  rw [h.2,hu 0 (by omega)]
 | agg =>
  simp only [List.length_map] at h
  obtain ⟨arr,h1,h2,h3⟩:=h
  simp only [if_true]
  rw [h1]
  congr 1
  apply Array.ext
  ·simp [h2]
  ·intro j hj1 hj2
   have hj:j<xs.length:=by simpa using hj1
   have:=h3 j hj
   rw [Array.getElem?_eq_getElem hj2] at this
   simp only [Array.getElem_ofFn]
   rw [hu j hj]
   exact (Option.some.inj this).symm
 | tup sig=>simp [isVal] at hv
 | box=>simp [isVal] at hv
end
end Go.Proofs.AI
namespace Go.Proofs.AI
open Go.RowKit
set_option linter.unusedVariables false
set_option linter.unusedSimpArgs false
section
variable {cx:Cx} {I:Nat->Prop} {U:Nat->Nat->Value} {B:Nat->Nat×Nat} {F:Nat->FP} {σ:St} {a:Act} {w:World}
theorem exit_box (h:RelW cx I U B F σ a w) (hpn:cx.pn=[]) {t:Nat} {K:Ky} (hK:σ t=some K) (hsh:K.sh=.box) :
  Rel ⟨cx.P,cx.args.size+1,cx.w0,cx.F0,cx.I0,cx.pn,cx.args⟩ (mk [(cx.args.size,⟨.box,K.cells.map boxC,[]⟩)]) ⟨cx.args.push (a.tmps.getD t undef),[]⟩ w:=by
 obtain ⟨h1,hroot,⟨N0,n1,n2,n3⟩,hrf⟩:=h.key t K hK
 have hfp:∀ b,rootFP ⟨.box,K.cells.map boxC,[]⟩ (B t) b↔rootFP K (B t) b:=fun b=>by simp [rootFP,hsh]
 refine ⟨I,fun j=>U t,fun j=>B t,fun j=>if j=cx.args.size then F t else FP.none,by simp,rfl,fun j K' hK'=>?_,fun j j' b g1 g2=>?_,fun j b hb=>?_,fun j b hb=>?_,h.ro,h.ro0,h.roN,h.fr⟩
 ·simp only [mk,up] at hK'
  split at hK'
  ·rename_i e
   subst e
   injection hK' with hK';subst hK'
   refine ⟨Nat.lt_succ_self _,?_⟩
   have hv:(cx.args.push (a.tmps.getD t undef)).getD cx.args.size undef=a.tmps.getD t undef:=by simp [Array.getD_eq_getD_getElem?]
   rw [hv]
   simp only [if_true]
   refine ⟨⟨fun o ho=>hroot.1 o (by simpa using ho),?_⟩,⟨fun o=>if (K.cells[o]?).any isC then N0 o else FP.none,fun o y hy=>?_,fun o o' b g1 g2=>?_,fun o b hb=>?_⟩,fun b hb=>hrf b ((hfp b).1 hb)⟩
   ·have h2:=hroot.2
    simp only [hsh] at h2
    simpa using h2
   ·simp only [List.getElem?_map] at hy
    obtain ⟨y',hy',rfl⟩:=Option.map_eq_some_iff.1 hy
    have hr:=n1 o y' hy'
    cases y' with
    | c z=>simp only [hy',Option.any_some,isC,if_true,boxC];exact hr
    | _=>simp only [boxC];exact Rep.any hr.one
   ·dsimp only at g1 g2
    split at g1
    ·split at g2
     ·exact n2 _ _ _ g1 g2
     ·exact g2.elim
    ·exact g1.elim
   ·dsimp only at hb
    split at hb
    ·obtain ⟨m1,m2⟩:=n3 o b hb
     exact ⟨m1,fun hr=>m2 ((hfp b).1 hr)⟩
    ·exact hb.elim
  ·cases hK'
 ·split at g1
  ·split at g2
   ·rename_i e1 e2;rw [e1,e2]
   ·exact g2.elim
  ·exact g1.elim
 ·split at hb
  ·exact h.own _ _ hb
  ·exact hb.elim
 ·split at hb
  ·rename_i e
   rcases h.may t b hb with h2 | h2 | ⟨K1,h2,h3,h4⟩
   ·exact .inl h2
   ·exact .inr (.inl h2)
   ·rw [hK] at h2;cases h2
    exact .inr (.inr ⟨_,by simp [mk,up,e],(hfp b).2 h3,fun q q1 q2=>h4 q q1 (by simpa using q2)⟩)
  ·exact hb.elim
theorem leaves_box {fn:Func} {post:L->Prop} (hr:At cx σ a w) (hpn:cx.pn=[]) {t:Nat} (hres:fn.results=#[.tmp t]) {K:Ky} (hK:σ t=some K) (hsh:K.sh=.box) (hp:post [(cx.args.size,⟨.box,K.cells.map boxC,[]⟩)]):Leaves cx fn post .ret a w:=by
 obtain ⟨⟨I,U,B,F,h⟩,hpin⟩:=hr
 refine ⟨h.defers,a.tmps.getD t undef,_,?_,hp,exit_box h hpn hK hsh⟩
 have:(results fn a.tmps).run cx.P w=(runR a.tmps (.tmp t)).run cx.P w:=by simp [results,hres,runR]
 rw [this];rfl
theorem leaves_boxP {fn:Func} {post:L->Prop} (hr:At cx σ a w) (hpn:cx.pn=[]) {t k n:Nat} {lg:Log} (hres:fn.results=#[.tmp t]) (ht:σ t=some ⟨.one,[.pr k 0 n],lg⟩) {K:Ky} (hK:σ k=some K) (hsh:K.sh=.box) (hg:gone K.log n=false) (hp:post [(cx.args.size,⟨.box,K.cells.map boxC,[]⟩)]):Leaves cx fn post .ret a w:=by
 obtain ⟨⟨I,U,B,F,h⟩,hpin⟩:=hr
 have he:a.tmps.getD t undef=a.tmps.getD k undef:=by
  obtain ⟨_,r1,⟨N,n1,_⟩,_⟩:=h.key t _ ht
  obtain ⟨_,r2,_⟩:=h.key k _ hK
  have h2:=r2.2
  simp only [hsh] at h2
  have h1:=r1.2
  simp only at h1
  obtain ⟨_,K',hK',_,hv⟩:=n1 0 (.pr k 0 n) rfl
  rw [hK] at hK';cases hK'
  rw [h1.2,hv hg hsh,h2.2.1,Nat.add_zero]
 refine ⟨h.defers,a.tmps.getD k undef,_,?_,hp,exit_box h hpn hK hsh⟩
 have:(results fn a.tmps).run cx.P w=(runR a.tmps (.tmp t)).run cx.P w:=by simp [results,hres,runR]
 rw [this]
 simp only [runR,he];rfl
end
end Go.Proofs.AI
namespace Go.Proofs.AI
open Go.RowKit
set_option linter.unusedVariables false
set_option linter.unusedSimpArgs false
def isU8:List CV->Bool
 | [.n .u8 _]=>true
 | _=>false
def u8Of:List CV->Int
 | [.n _ v]=>v
 | _=>0
def vConvS (T:Tab) (σ:St) (s d:TypeId) (x:Operand):Option CV :=
 match T s with
 | some ⟨.sl e,_,_,_,_,_,_⟩=>match T d with
  | some ⟨.str,_,_,_,_,_,_⟩=>match T e with
   | some ⟨.int .u8,1,_,_,_,_,_⟩=>match one1 σ x with
    | some q=>match rowsAt σ q with
     | some (e',es)=>if e=e'/\es.l.all isU8=true then some (.s (strOfNums (es.l.map u8Of))) else none
     | none=>none
    | none=>none
   | _=>none
  | _=>none
 | _=>none
section
variable {cx:Cx} {I:Nat->Prop} {U:Nat->Nat->Value} {B:Nat->Nat×Nat} {F:Nat->FP} {σ:St} {a:Act} {w:World}
theorem rowsAt_cells (h:RelW cx I U B F σ a w) {s:SC} {v:Value} {e:TypeId} {es:Rows CV} (hs:SCRep cx.P w I σ U B s v FP.none) (hr:rowsAt σ s=some (e,es)) :
  ∃ (A:Option Addr) (c:Nat) (us:Nat->Nat->Value),v=.slice A es.n c/\(0<es.n->∃ ad:Addr,A=some ad/\∀ (k:Nat) (row:List CV),es.l[k]?=some row->∀ o,o<row.length->w.cell? (ad.add (k*cx.P.cellsOf e+o))=some (us k o)) /\
   (∀ (k:Nat) (row:List CV) (o:Nat) (x:CV),es.l[k]?=some row->row[o]?=some x->∃ G,Rep cx.P w I x (us k o) G):=by
 cases s with
 | c x =>
  cases x<;>simp [rowsAt] at hr
  obtain ⟨rfl,rfl⟩:=hr
  obtain ⟨A,c,us,hv,h1,h2,h3,h4,h5⟩:=Rep.sh_inv hs
  exact ⟨A,c,us,hv,fun hp=>by obtain ⟨ad,e1,_,e3⟩:=h3 hp;exact ⟨ad,e1,e3⟩,fun k row o x hk hx=>⟨_,h5 k row o x hk hx⟩⟩
 | v e0 k o p n r =>
  cases r with
  | some r=>simp [rowsAt] at hr
  | none =>
   obtain ⟨rfl,K,x,hK,hst,hx,hg⟩:=rowsAt_none hr
   obtain ⟨_,K',hK',_,hv⟩:=hs
   rw [hK] at hK'
   cases hK'
   obtain ⟨u,G,c1,c2,_⟩:=way_at h hK hx hg
   obtain ⟨u',d1,d2⟩:=hv hst x _ hx hg
   rw [c1] at d1
   cases d1
   simp only [sub] at d2
   subst d2
   rcases c2.ow_inv with ⟨hv,h0⟩ | ⟨g,cap,cur,us,G,hv,g1,g2,g3,g4,g5,g6,g7,g8,g9,_⟩
   ·have hl:es.l=[]:=Rows.l_nil h0
    exact ⟨none,0,fun _ _=>undef,by rw [hv,h0],fun hp=>by omega,fun k row o x hk=>by simp [hl] at hk⟩
   ·refine ⟨some ⟨g,0,none⟩,cap,us,hv,fun hp=>⟨_,rfl,fun k row hk o ho=>?_⟩,fun k row o x hk hx=>⟨_,g9 k row o x hk hx⟩⟩
    rw [add_plain,Nat.zero_add]
    simp [World.cell?,g1,g8 k row o hk ho]
 | pr k o n=>simp [rowsAt] at hr
 | p e k o p n i j=>simp [rowsAt] at hr
 | q row o=>simp [rowsAt] at hr
 | fn f ks=>simp [rowsAt] at hr
theorem isU8_inv {row:List CV} (h:isU8 row=true):row=[.n .u8 (u8Of row)]:=by
 match row with
 | [.n .u8 v]=>rfl
 | [.n .i8 v] | [.n .i16 v] | [.n .i32 v] | [.n .i64 v] | [.n .u16 v] | [.n .u32 v] | [.n .u64 v]=>simp [isU8] at h
 | []=>simp [isU8] at h
 | [.any] | [.b _] | [.s _] | [.vl _] | [.sh _ _] | [.ow _ _]=>simp [isU8] at h
 | _::_::_=>simp [isU8] at h
theorem vConvS_ok (h:RelW cx I U B F σ a w) {T:Tab} (hT:TabOk cx.P T) {s d:TypeId} {x:Operand} {c:CV} (hv:vConvS T σ s d x=some c):∃ v,(convert s d (a.eval x)).run cx.P w=.ok v w/\Rep cx.P w I c v FP.none:=by
 unfold vConvS at hv
 split at hv
 ·rename_i e sz b fs z eq els_ hs
  split at hv
  ·rename_i hd
   split at hv
   ·rename_i he
    split at hv
    ·rename_i q hq
     split at hv
     ·rename_i e' es hr
      split at hv
      ·rename_i hc
       obtain ⟨rfl,hall⟩:=hc
       injection hv with hv;subst hv
       have ds:=(hT s _ hs).desc
       have dd:=(hT d _ hd).desc
       have de:=(hT e _ he).desc
       simp only at ds dd de
       have hce:cx.P.cellsOf e=1:=(hT e _ he).cellsOf
       obtain ⟨A,cp,us,hval,h1,h2⟩:=rowsAt_cells h (one1_rep h hq) hr
       rw [hval]
       refine ⟨_,?_,.s⟩
       have hrow:∀ k row,es.l[k]?=some row->row=[CV.n .u8 (u8Of row)]:=fun k row hk=>isU8_inv (List.all_eq_true.1 hall row (List.mem_of_getElem? hk))
       rcases Nat.eq_zero_or_pos es.n with h0 | h0
       ·have hl:es.l=[]:=Rows.l_nil h0
        rw [hl,h0]
        cases A with
        | none=>exact run_convert_bytes_nil w s e ds de _ _ d dd
        | some ad =>
         rw [run_convert_bytes_string w s d e _ 0 cp ds de dd,run_bytesToString w ad 0 cp [] (by have:=run_loadCells_list (P:=cx.P) w ad [] (fun j v hj=>by simp at hj);simpa using this)]
         rfl
       ·obtain ⟨ad,rfl,h3⟩:=h1 h0
        have hcell:∀ k,k<es.n->w.cell? (ad.add k)=some (.int .u8 ((es.l.map u8Of).getD k 0)):=fun k hk=>by
         have hl:=es.l_eq hk
         have hr:=hrow k _ hl
         have h4:=h3 k _ hl 0 (by rw [hr];simp)
         rw [hce,Nat.mul_one,Nat.add_zero] at h4
         obtain ⟨G,h5⟩:=h2 k _ 0 _ hl (by rw [hr];rfl)
         rw [h4,rep_n h5]
         simp [List.getD_eq_getElem?_getD,List.getElem?_map,hl]
        have hl:(loadCells ad es.n).run cx.P w=.ok ((es.l.map u8Of).map (Value.int .u8)).toArray w:=by
         have:=run_loadCells_list (P:=cx.P) w ad ((es.l.map u8Of).map (Value.int .u8)) (fun j v hj=>by
          have hjl:j<es.n:=by
           have:=(List.getElem?_eq_some_iff.1 hj).1
           simpa using this
          rw [hcell j hjl]
          have hll:=es.l_eq hjl
          simp only [List.getElem?_map,hll,Option.map_some] at hj
          simp [List.getD_eq_getElem?_getD,List.getElem?_map,hll]
          exact Option.some.inj hj)
         simpa using this
        rw [run_convert_bytes_string w s d e _ _ cp ds de dd,run_bytesToString w ad es.n cp _ hl,foldl_push_bytes]
        simp [strOfNums,ByteArray.empty,ByteArray.emptyWithCapacity]
        rfl
      ·cases hv
     ·cases hv
    ·cases hv
   ·cases hv
  ·cases hv
 ·cases hv
end
theorem sub_vConvS {T:Tab} {σ σ':St} (h:Sub σ σ') {s d:TypeId} {x:Operand} {c:CV} (hv:vConvS T σ s d x=some c):vConvS T σ' s d x=some c:=by
 unfold vConvS at hv ⊢
 split at hv
 ·split at hv
  ·split at hv
   ·split at hv
    ·rename_i q hq
     split at hv
     ·rename_i e' es hr
      split at hv
      ·rename_i hc
       simp only [sub_one1 h hq,sub_rowsAt h hr]
       rw [if_pos hc]
       exact hv
      ·cases hv
     ·cases hv
    ·cases hv
   ·cases hv
  ·cases hv
 ·cases hv
section
variable {P:Program} {S:List Nat} {T:Tab} {ops:Array Oper} {i:Nat} {o:Oper} {σ:St}
theorem ops_conv (hT:TabOk P T) (hi:ops[i]?=some o) (hw:Want ops σ o.guard true) {d:Nat} (hd:o.dst=some d) {s t:TypeId} {x:Operand} (ho:o.op=.convert s t x) {c:CV} (h:vConvS T σ s t x=some c) :
  OpS P S ops i σ [(d,⟨.one,[.c c],logAt σ d⟩)]:=by
 refine ops_on hi hw fun σ' hsub heq=>?_
 have:logAt σ d=logAt σ' d:=by simp only [logAt,heq d hd]
 rw [this]
 refine snd_one hd fun cx I U B F a w hP hr=>?_
 subst hP
 obtain ⟨v,h1,h2⟩:=vConvS_ok hr hT (sub_vConvS hsub h)
 exact ⟨v,by unfold execOp;simp only [ho,Sem.run_bind,h1,Result.andThen_ok,Sem.run_pure],h2⟩
end
end Go.Proofs.AI
namespace Go.Proofs.AI
open Go.RowKit
set_option linter.unusedVariables false
set_option linter.unusedSimpArgs false
def isSt:TK->Bool
 | .st=>true
 | _=>false
def act1 (T:Tab) (σ:St) (o:Oper):Option (Prop×L) :=
 match o.dst with
 | none=>match o.op with
  | .store t p x=>vStore T σ t p x
  | _=>none
 | some d=>match rd1 T σ o.op with
  | some (ob,.one x)=>some (ob,[(d,⟨.one,[x],logAt σ d⟩)])
  | some (ob,.agg xs)=>some (ob,[(d,⟨.agg,xs,logAt σ d⟩)])
  | none=>match o.op with
   | .assign x=>match steal σ x with
    | some e=>some (True,e.out++[(d,⟨if e.agg then .agg else .one,e.cells,logAt (ups σ e.out) d⟩)])
    | none=>none
   | .move x=>match vMoveT σ d x with
    | some out=>some (True,out)
    | none=>none
   | .extract x ix=>match vExtract σ x ix with
    | some r=>some (True,resOut σ d r)
    | none=>none
   | .box t x=>match eat σ x with
    | some e=>if 0<e.cells.length then some (True,e.out++[(d,⟨.box,e.cells,logAt (ups σ e.out) d⟩)]) else none
    | none=>none
   | .alloc t=>match T t with
    | some i=>if 0<i.zero.length then some (True,[(d,⟨.box,i.zc.map SC.c,logAt σ d⟩)]) else none
    | none=>none
   | .build t parts=>match T t,eats σ parts.toList with
    | some i,some (l,out)=>match fills (i.fields[·]?) i.zc l with
     | some ys=>match i.k with
      | .st=>some (True,out++[(d,⟨.agg,ys.map SC.c,logAt (ups σ out) d⟩)])
      | _=>none
     | none=>none
    | _,_=>none
   | .buildSlice t n parts=>match T t,eats σ parts.toList with
    | some it,some (l,out)=>match it.k with
     | .sl e=>match T e with
      | some ie=>match fills (fun i=>some (i*ie.size,ie.size,isSt ie.k)) (List.replicate n ie.zc).flatten l with
       | some ys=>if 0<ie.size/\n*ie.size<=16777216 then some (True,out++[(d,⟨.one,[.c (.ow e (tidy (rowsOf n ie.size ys)))],logAt (ups σ out) d⟩)]) else none
       | none=>none
      | none=>none
     | _=>none
    | _,_=>none
   | .call ⟨.builtin .append,⟨[s,x]⟩,⟨[t,t']⟩⟩=>match T t with
    | some it=>match it.k with
     | .sl e=>match T e with
      | some ie=>match vMore σ e x with
       | some m=>match vBase (ups σ m.out) e s with
        | some b=>if t'=t/\0<ie.size/\0<ie.bytes then some ((b.rows.n+m.rows.n)*ie.bytes<=140737488355328,m.out++b.out++[(d,⟨.one,[.c (.ow e (appR b.rows m.rows))],logAt (ups σ (m.out++b.out)) d⟩)]) else none
        | none=>none
       | none=>none
      | none=>none
     | _=>none
    | none=>none
   | _=>none
theorem act1_ok {P:Program} {S:List Nat} {T:Tab} (hT:TabOk P T) {ops:Array Oper} {i:Nat} {o:Oper} {σ:St} (hi:ops[i]?=some o) (hw:Want ops σ o.guard true) {ob:Prop} {outs:L} (h:act1 T σ o=some (ob,outs)) (hob:ob):OpS P S ops i σ outs:=by
 unfold act1 at h
 split at h
 ·rename_i hd
  split at h
  ·rename_i t p x ho
   exact ops_store hT hi hw hd ho h hob
  ·cases h
 ·rename_i d hd
  split at h
  ·rename_i ob' x hr
   injection h with h;injection h with h1 h2;subst h1 h2
   exact ops_rd_one hT hi hw hd hr hob
  ·rename_i ob' xs hr
   injection h with h;injection h with h1 h2;subst h1 h2
   exact ops_rd_agg hT hi hw hd hr hob
  ·split at h
   ·rename_i x ho
    split at h
    ·rename_i e he
     injection h with h;injection h with h1 h2;subst h1 h2
     exact ops_assign hi hw hd ho he
    ·cases h
   ·rename_i x ho
    split at h
    ·rename_i out hr
     injection h with h;injection h with h1 h2;subst h1 h2
     exact ops_moveT hi hw hd ho hr
    ·cases h
   ·rename_i x ix ho
    split at h
    ·rename_i r hr
     injection h with h;injection h with h1 h2;subst h1 h2
     exact ops_extract hi hw hd ho hr
    ·cases h
   ·rename_i t x ho
    split at h
    ·rename_i e he
     split at h
     ·rename_i hp
      injection h with h;injection h with h1 h2;subst h1 h2
      exact ops_box hi hw hd ho he hp
     ·cases h
    ·cases h
   ·rename_i t ho
    split at h
    ·rename_i ty ht
     split at h
     ·rename_i hp
      injection h with h;injection h with h1 h2;subst h1 h2
      exact ops_alloc hT hi hw hd ho ht hp
     ·cases h
    ·cases h
   ·rename_i t parts ho
    split at h
    ·rename_i ty l out ht he
     split at h
     ·rename_i ys hf
      split at h
      ·rename_i hk
       injection h with h;injection h with h1 h2;subst h1 h2
       exact ops_build hT hi hw hd ho ht hk he hf
      ·cases h
     ·cases h
    ·cases h
   ·rename_i t n parts ho
    split at h
    ·rename_i it l out ht he
     split at h
     ·rename_i e hk
      split at h
      ·rename_i ie hie
       split at h
       ·rename_i ys hf
        split at h
        ·rename_i hp
         injection h with h;injection h with h1 h2;subst h1 h2
         exact ops_buildSlice hT hi hw hd ho ht hk hie hp.1 hp.2 he _ hf
        ·cases h
       ·cases h
      ·cases h
     ·cases h
    ·cases h
   ·rename_i s x t t' ho
    split at h
    ·rename_i it ht
     split at h
     ·rename_i e hk
      split at h
      ·rename_i ie hie
       split at h
       ·rename_i m hm
        split at h
        ·rename_i b hb
         split at h
         ·rename_i hp
          injection h with h;injection h with h1 h2;subst h1 h2
          obtain ⟨rfl,p1,p2⟩:=hp
          exact ops_append hT hi hw hd ho ht hk hie p1 hm hb hob p2
         ·cases h
        ·cases h
       ·cases h
      ·cases h
     ·cases h
    ·cases h
   ·cases h
end Go.Proofs.AI
namespace Go.Proofs.AI
open Go.RowKit
set_option linter.unusedVariables false
set_option linter.unusedSimpArgs false
def wayEq (p q:Way):Prop:=p=q
theorem wayEq_self (p:Way):wayEq p p↔True:=⟨fun _=>trivial,fun _=>rfl⟩
def sameC (has:Nat->Option Nat->Bool):SC->SC->Prop
 | .c x,.c y=>beOb x y
 | .v e k o p 0 r,.v e' k' o' p' 0 r'=>e=e'/\k=k'/\o=o'/\p=p'/\r=r'/\has k none=true
 | .pr k o 0,.pr k' o' 0=>k=k'/\o=o'/\has k none=true
 | .q row o,.q row' o'=>row=row'/\o=o'
 | .fn f ks,.fn f' ks'=>f=f'/\ks=ks'/\ks'.all (fun q=>has q.1 none&&q.2==0)=true
 | .p e k o p 0 i j,.p e' k' o' p' 0 i' j'=>e=e'/\k=k'/\o=o'/\wayEq p p'/\i=i'/\j=j'/\has k (some o)=true
 | _,_=>False
def sameCs (has:Nat->Option Nat->Bool):List SC->List SC->Prop
 | [],[]=>True
 | [x],[y]=>sameC has x y
 | x::xs,y::ys=>sameC has x y/\sameCs has xs ys
 | _,_=>False
def sameK (has:Nat->Option Nat->Bool):Option Ky->Ky->Prop
 | some ⟨sh,cells,[]⟩,⟨sh',cells',[]⟩=>if sh=sh' then sameCs has cells cells' else False
 | _,_=>False
def sameR (has:Nat->Option Nat->Bool) (σ:St):L->Prop
 | []=>True
 | [(k,K)]=>sameK has (σ k) K
 | (k,K)::r=>sameK has (σ k) K/\sameR has σ r
def owAt (s:L) (k:Nat):Option Nat->Bool
 | none=>true
 | some o=>match mk s k with
  | some K=>match K.cells[o]? with
   | some (.c (.ow _ _))=>true
   | _=>false
  | none=>false
def hasL (s s':L) (k:Nat) (q:Option Nat):Bool:=(s'.any fun p=>p.1==k)&&owAt s k q
theorem hasL_1 {s s':L} {k:Nat} {q:Option Nat} (h:hasL s s' k q=true):(s'.any fun p=>p.1==k)=true:=by
 simp only [hasL,Bool.and_eq_true] at h;exact h.1
theorem hasL_2 {s s':L} {k o:Nat} (h:hasL s s' k (some o)=true):∃ K e es,mk s k=some K/\K.cells[o]?=some (.c (.ow e es)):=by
 simp only [hasL,Bool.and_eq_true,owAt] at h
 obtain ⟨_,h⟩:=h
 split at h
 ·rename_i K hK
  split at h
  ·rename_i e es he
   exact ⟨K,e,es,hK,he⟩
  ·cases h
 ·cases h
def sameL (s s':L):Prop:=sameR (hasL s s') (mk s) s'
theorem sameCs_at {has:Nat->Option Nat->Bool}:∀ {xs ys:List SC},sameCs has xs ys->xs.length=ys.length/\∀ (o:Nat) y,ys[o]?=some y->∃ x,xs[o]?=some x/\sameC has x y
 | [],[],_=>⟨rfl,fun o y h=>by simp at h⟩
 | [],_::_,h=>by simp [sameCs] at h
 | [_],[],h=>by simp [sameCs] at h
 | _::_::_,[],h=>by simp [sameCs] at h
 | [x],[y],h=>⟨rfl,fun o z hz=>by
   cases o with
   | zero=>simp at hz;subst hz;exact ⟨x,rfl,h⟩
   | succ o=>simp at hz⟩
 | [x],y::y'::ys,h=>by
  simp only [sameCs] at h
  exact h.2.elim
 | x::x'::xs,[y],h=>by
  simp only [sameCs] at h
  exact h.2.elim
 | x::x'::xs,y::y'::ys,h=>by
  simp only [sameCs] at h
  obtain ⟨h1,h2⟩:=sameCs_at (xs:=x'::xs) (ys:=y'::ys) (by simpa only [sameCs] using h.2)
  refine ⟨by simpa using h1,fun o z hz=>?_⟩
  cases o with
  | zero=>simp at hz;subst hz;exact ⟨x,rfl,h.1⟩
  | succ o=>simpa using h2 o z (by simpa using hz)
theorem sameR_at {has:Nat->Option Nat->Bool} {σ:St}:∀ {s':L},sameR has σ s'->∀ t K',mk s' t=some K'->sameK has (σ t) K'
 | [],_,t,K',h=>by simp [mk] at h
 | [(k,K)],h,t,K',hK=>by
  simp only [mk,up] at hK
  split at hK
  ·rename_i e;subst e;cases hK;exact h
  ·cases hK
 | (k,K)::q::r,h,t,K',hK=>by
  simp only [sameR] at h
  by_cases e:t=k
  ·subst e
   simp only [mk,up,if_true] at hK
   cases hK
   exact h.1
  ·have hK2:mk (q::r) t=some K':=by
    have:mk ((k,K)::q::r) t=mk (q::r) t:=by simp only [mk,up,e,if_false]
    rw [<- this];exact hK
   exact sameR_at (s':=q::r) (by simpa only [sameR] using h.2) t K' hK2
theorem mk_has {s':L}:∀ {k:Nat},(s'.any fun p=>p.1==k)=true->∃ K,mk s' k=some K:=by
 induction s' with
 | nil=>intro k h;simp at h
 | cons q r ih =>
  obtain ⟨d,K⟩:=q
  intro k h
  by_cases e:k=d
  ·exact ⟨K,by simp [mk,up,e]⟩
  ·simp only [List.any_cons,Bool.or_eq_true] at h
   rcases h with h | h
   ·exact absurd (by simpa using h:d=k).symm e
   ·obtain ⟨K',h⟩:=ih h
    exact ⟨K',by simp only [mk,up,e,if_false];exact h⟩
theorem mk_has' {s':L}:∀ {k:Nat} {K:Ky},mk s' k=some K->(s'.any fun p=>p.1==k)=true:=by
 induction s' with
 | nil=>intro k K h;simp [mk] at h
 | cons q r ih =>
  obtain ⟨d,K0⟩:=q
  intro k K h
  by_cases e:k=d
  ·simp [e]
  ·simp only [mk,up,e,if_false] at h
   simp [ih h]
theorem sameK_inv {has:Nat->Option Nat->Bool} {q:Option Ky} {K':Ky} (h:sameK has q K'):∃ K,q=some K/\K.log=[]/\K'.log=[]/\K.sh=K'.sh/\sameCs has K.cells K'.cells:=by
 unfold sameK at h
 split at h
 ·split at h
  ·rename_i he;exact ⟨_,rfl,rfl,rfl,he,h⟩
  ·exact h.elim
 ·exact h.elim
theorem cn_get {P:Program} {w:World}:∀ {p:Way} {x y:CV} {u:Value} {z:CV},cn x=cn y->y.get p=some z->∃ z0,x.get p=some z0/\conc P w y u p=conc P w x u p
 | [],x,y,u,z,_,hz=>⟨x,by simp [CV.get],by simp [conc]⟩
 | (k,o)::r,x,y,u,z,h,hz=>by
  cases y<;>simp only [CV.get,reduceCtorEq] at hz
  rename_i e es
  cases x<;>simp [cn] at h
  rename_i e' es'
  obtain ⟨rfl,h⟩:=h
  have h:=raw_inj.1 h
  obtain ⟨y1,hy1,hz⟩:=Option.bind_eq_some_iff.1 hz
  obtain ⟨row,r1,r2,_⟩:=row_lt hy1
  obtain ⟨row0,e1,e2,e3⟩:=cnRs_row h r1
  obtain ⟨x1,g1,g2⟩:=e3 o y1 r2
  have hx1:=row_mk e1 g1
  obtain ⟨z0,q1,q2⟩:=cn_get (P:=P) (w:=w) (p:=r) (u:=undef) g2 hz
  refine ⟨z0,by simp [CV.get,hx1,q1],?_⟩
  cases u with
  | slice A m c =>
   cases A with
   | none=>simp [conc]
   | some ad =>
    obtain ⟨g,of,sp⟩:=ad
    cases of<;>cases sp<;>simp only [conc,hx1,hy1,Option.bind_some]
    refine congrArg _ (funext fun u'=>?_)
    obtain ⟨_,_,q3⟩:=cn_get (P:=P) (w:=w) (p:=r) (u:=u') g2 hz
    exact q3
  | _=>simp [conc]
theorem beOb_get {x y:CV} (h:beOb x y) {P:Program} {w:World} {u:Value}:∀ {p:Way} {z:CV},y.get p=some z->p=[]∨∃ z0,x.get p=some z0/\conc P w y u p=conc P w x u p:=by
 intro p z hz
 cases p with
 | nil=>exact .inl rfl
 | cons s r =>
  obtain ⟨k,o⟩:=s
  right
  unfold beOb at h
  split at h
  ·simp [CV.get,row?,Rows.l_nil h] at hz
  ·simp [CV.get] at hz
  ·subst h;exact ⟨z,hz,rfl⟩
  ·obtain ⟨rfl,hl⟩:=ifOb h
   exact cn_get (by simp only [cn,hl]) hz
  ·simp [CV.get] at hz
  ·simp [CV.get] at hz
  ·simp [CV.get] at hz
  ·simp [CV.get] at hz
  ·simp [CV.get] at hz
  ·simp [CV.get] at hz
  ·simp [CV.get] at hz
  ·simp [CV.get] at hz
  ·exact h.elim
theorem cnWay {P:Program} {w:World}:∀ {p:Way} {x y:CV} {u:Value} {e:TypeId} {es:Rows CV},cn x=cn y->y.get p=some (.ow e es)->∃ es0,x.get p=some (.ow e es0)/\conc P w y u p=conc P w x u p
 | [],x,y,u,e,es,h,hz=>by
  simp [CV.get] at hz
  subst hz
  cases x<;>simp [cn] at h
  rename_i e1 es1
  obtain ⟨rfl,h⟩:=h
  exact ⟨es1,by simp [CV.get],by simp [conc]⟩
 | (k,o)::r,x,y,u,e0,es0,h,hz=>by
  cases y<;>simp only [CV.get,reduceCtorEq] at hz
  rename_i e es
  cases x<;>simp [cn] at h
  rename_i e' es'
  obtain ⟨rfl,h⟩:=h
  have h:=raw_inj.1 h
  obtain ⟨y1,hy1,hz⟩:=Option.bind_eq_some_iff.1 hz
  obtain ⟨row,r1,r2,_⟩:=row_lt hy1
  obtain ⟨row0,e1,e2,e3⟩:=cnRs_row h r1
  obtain ⟨x1,g1,g2⟩:=e3 o y1 r2
  have hx1:=row_mk e1 g1
  obtain ⟨z0,q1,q2⟩:=cnWay (P:=P) (w:=w) (p:=r) (u:=undef) g2 hz
  refine ⟨z0,by simp [CV.get,hx1,q1],?_⟩
  cases u with
  | slice A m c =>
   cases A with
   | none=>simp [conc]
   | some ad =>
    obtain ⟨g,of,sp⟩:=ad
    cases of<;>cases sp<;>simp only [conc,hx1,hy1,Option.bind_some]
    refine congrArg _ (funext fun u'=>?_)
    obtain ⟨_,_,q3⟩:=cnWay (P:=P) (w:=w) (p:=r) (u:=u') g2 hz
    exact q3
  | _=>simp [conc]
theorem beOb_ow {e0:TypeId} {es0:Rows CV} {y:CV} (h:beOb (.ow e0 es0) y) {P:Program} {w:World} {u:Value} {p:Way} {e:TypeId} {es:Rows CV} (hz:y.get p=some (.ow e es)):∃ es1,(CV.ow e0 es0).get p=some (.ow e es1)/\conc P w y u p=conc P w (.ow e0 es0) u p:=by
 unfold beOb at h
 split at h
 all_goals first
  | (rename_i heq;cases heq;done)
  | skip
 ·rename_i heq
  injection heq with h1 h2;subst h1 h2
  obtain ⟨rfl,hl⟩:=ifOb h
  exact cnWay (by simp only [cn,hl]) hz
 all_goals first
  | (cases p<;>simp [CV.get] at hz;done)
  | exact h.elim
theorem same_at {cx:Cx} {s s':L} {a:Act} {w:World} (hs:sameL s s') (h:At cx (mk s) a w):At cx (mk s') a w:=by
 obtain ⟨⟨I,U,B,F,h⟩,hp⟩:=h
 refine ⟨⟨I,U,B,fun t=>if (s'.any fun p=>p.1==t)=true∨t=cx.n then F t else FP.none,?_⟩,hp⟩
 have sub:∀ t b,(if (s'.any fun p=>p.1==t)=true∨t=cx.n then F t else FP.none) b->F t b/\((s'.any fun p=>p.1==t)=true∨t=cx.n):=fun t b hb=>by
  split at hb
  ·rename_i h1;exact ⟨hb,h1⟩
  ·exact hb.elim
 have key:∀ t K',mk s' t=some K'->∃ K,mk s t=some K/\K.log=[]/\K'.log=[]/\K.sh=K'.sh/\sameCs (hasL s s') K.cells K'.cells:=fun t K' hK'=>sameK_inv (sameR_at hs t K' hK')
 have cell:∀ {x y:SC} {v:Value} {G:FP},sameC (hasL s s') x y->SCRep cx.P w I (mk s) U B x v G->SCRep cx.P w I (mk s') U B y v G:=by
  intro x y v G hxy hr
  unfold sameC at hxy
  split at hxy
  ·exact beOb_rep hxy hr
  ·obtain ⟨rfl,rfl,rfl,rfl,rfl,hk⟩:=hxy
   rename_i e k o p r
   obtain ⟨K',hK'⟩:=mk_has (hasL_1 hk)
   obtain ⟨K,hK,l1,l2,e1,e2⟩:=key k K' hK'
   obtain ⟨h1,K0,h2,h3,h4⟩:=hr
   rw [hK] at h2;cases h2
   refine ⟨h1,K',hK',Nat.zero_le _,fun hst x0 y0 hx0 hy0=>?_⟩
   obtain ⟨z,hz,hzy⟩:=(sameCs_at e2).2 o _ hx0
   have hst0:stale K.log 0 o p=false:=by rw [l1];rfl
   unfold sameC at hzy
   split at hzy
   ·rename_i x1 y1 heq
    injection heq with heq;subst heq
    rcases beOb_get hzy (P:=cx.P) (w:=w) (u:=U k o) hy0 with rfl | ⟨z0,g1,g2⟩
    ·obtain ⟨u,q1,q2⟩:=h4 hst0 x1 _ hz rfl
     exact ⟨u,by simpa [conc] using q1,q2⟩
    ·obtain ⟨u,q1,q2⟩:=h4 hst0 x1 _ hz g1
     exact ⟨u,g2.trans q1,q2⟩
   ·rename_i heq;cases heq
   ·rename_i heq;cases heq
   ·rename_i heq;cases heq
   ·rename_i heq;cases heq
   ·rename_i heq;cases heq
   ·exact hzy.elim
  ·obtain ⟨rfl,rfl,hk⟩:=hxy
   rename_i k o
   obtain ⟨K',hK'⟩:=mk_has (hasL_1 hk)
   obtain ⟨K,hK,l1,l2,e1,e2⟩:=key k K' hK'
   obtain ⟨h1,K0,h2,h3,h4⟩:=hr
   rw [hK] at h2;cases h2
   exact ⟨h1,K',hK',Nat.zero_le _,fun hg hb=>h4 (by rw [l1];rfl) (e1.trans hb)⟩
  ·obtain ⟨rfl,rfl⟩:=hxy;exact hr
  ·obtain ⟨rfl,rfl,hall⟩:=hxy
   obtain ⟨vs,h1,h2,h3⟩:=hr
   refine ⟨vs,h1,h2,fun i k n hi=>?_⟩
   have ha:=List.all_eq_true.1 hall _ (List.mem_of_getElem? hi)
   simp only [Bool.and_eq_true,beq_iff_eq] at ha
   obtain ⟨K',hK'⟩:=mk_has (hasL_1 ha.1)
   obtain ⟨K,hK,l1,l2,e1,e2⟩:=key k K' hK'
   obtain ⟨a1,K0,a2,a3,a4⟩:=h3 i k n hi
   rw [hK] at a2;cases a2
   exact ⟨a1,K',hK',by omega,fun hg hb=>a4 (by rw [l1];simp [gone]) (e1.trans hb)⟩
  ·obtain ⟨rfl,rfl,rfl,hp,rfl,rfl,hk⟩:=hxy
   cases hp
   rename_i e k o p i j
   obtain ⟨K',hK'⟩:=mk_has (hasL_1 hk)
   obtain ⟨K,hK,l1,l2,e1,e2⟩:=key k K' hK'
   obtain ⟨h1,K0,h2,h3,h4⟩:=hr
   rw [hK] at h2;cases h2
   refine ⟨h1,K',hK',Nat.zero_le _,fun hst x0 y0 hx0 hy0=>?_⟩
   obtain ⟨z,hz,hzy⟩:=(sameCs_at e2).2 o _ hx0
   have hst0:stale K.log 0 o p=false:=by rw [l1];rfl
   unfold sameC at hzy
   split at hzy
   ·rename_i x1 y1 heq
    injection heq with heq;subst heq
    obtain ⟨K1,e1',es1,k1,k2⟩:=hasL_2 hk
    rw [hK] at k1;cases k1
    rw [hz] at k2
    injection k2 with k2;injection k2 with k2;subst k2
    obtain ⟨z0,g1,g2⟩:=beOb_ow hzy (P:=cx.P) (w:=w) (u:=U k o) hy0
    ·obtain ⟨g,m,c,q1,q2⟩:=h4 hst0 _ _ hz g1
     exact ⟨g,m,c,g2.trans q1,q2⟩
   ·rename_i heq;cases heq
   ·rename_i heq;cases heq
   ·rename_i heq;cases heq
   ·rename_i heq;cases heq
   ·rename_i heq;cases heq
   ·exact hzy.elim
  ·exact hxy.elim
 refine ⟨h.size,h.defers,fun t K' hK'=>?_,fun t t' b h1 h2=>h.dis t t' b (sub t b h1).1 (sub t' b h2).1,fun t b hb=>h.own t b (sub t b hb).1,fun t b hb=>?_,h.ro,h.ro0,h.roN,h.fr⟩
 ·obtain ⟨K,hK,l1,l2,e1,e2⟩:=key t K' hK'
  obtain ⟨h1,h2,⟨N,n1,n2,n3⟩,h4⟩:=h.key t K hK
  obtain ⟨hlen,hat⟩:=sameCs_at e2
  refine ⟨h1,?_⟩
  simp only [mk_has' hK',true_or,if_true]
  have hfp:∀ b,rootFP K' (B t) b↔rootFP K (B t) b:=fun b=>by simp only [rootFP,e1]
  refine ⟨⟨fun o ho=>h2.1 o (by omega),?_⟩,⟨N,fun o y hy=>?_,n2,fun o b hb=>⟨(n3 o b hb).1,fun hq=>(n3 o b hb).2 ((hfp b).1 hq)⟩⟩,fun b hb=>h4 b ((hfp b).1 hb)⟩
  ·have h2:=h2.2
   rw [<- e1]
   cases hs:K.sh with
   | one=>simp only [hs] at h2 ⊢;exact ⟨by omega,h2.2⟩
   | agg=>simp only [hs] at h2 ⊢;rw [<- hlen];exact h2
   | tup sig=>simp only [hs] at h2 ⊢;exact h2
   | box=>simp only [hs] at h2 ⊢;rw [<- hlen];exact h2
  ·obtain ⟨x,hx,hxy⟩:=hat o y hy
   exact cell hxy (n1 o x hx)
 ·obtain ⟨h1,h2⟩:=sub t b hb
  rcases h.may t b h1 with h3 | h3 | ⟨K,h3,h4,h5⟩
  ·exact .inl h3
  ·exact .inr (.inl h3)
  ·rcases h2 with h2 | h2
   ·obtain ⟨K',hK'⟩:=mk_has h2
    obtain ⟨K0,hK0,l1,l2,e1,e2⟩:=key t K' hK'
    rw [h3] at hK0;cases hK0
    exact .inr (.inr ⟨K',hK',by simpa only [rootFP,e1] using h4,fun q q1 q2=>h5 q q1 (by rw [(sameCs_at e2).1];exact q2)⟩)
   ·exact absurd (h.key t K h3).1 (by omega)
theorem same_rel {cx:Cx} {s s':L} {a:Act} {w:World} (hs:sameL s s') (h:Rel cx (mk s) a w):Rel cx (mk s') a w:=by
 have:At { cx with pn:=[] } (mk s) a w:=⟨by
  obtain ⟨I,U,B,F,h⟩:=h
  exact ⟨I,U,B,F,⟨h.size,h.defers,h.key,h.dis,h.own,h.may,h.ro,h.ro0,h.roN,h.fr⟩⟩,by simp⟩
 obtain ⟨⟨I,U,B,F,h'⟩,_⟩:=same_at hs this
 exact ⟨I,U,B,F,⟨h'.size,h'.defers,h'.key,h'.dis,h'.own,h'.may,h'.ro,h'.ro0,h'.roN,h'.fr⟩⟩
theorem FunOK.same {P:Program} {f m:Nat} {bx:List Nat} {ins ins':L} {post:L->Prop} (hs:sameL ins ins') (h:FunOK P f m bx ins' post):FunOK P f m bx ins post :=
 fun F0 I0 args w hm hr=>h F0 I0 args w hm (same_rel hs hr)
end Go.Proofs.AI
namespace Go.Proofs.AI
open Go.RowKit
set_option linter.unusedVariables false
set_option linter.unusedSimpArgs false
def preOf {β:Type}:Option (β->Prop)->β->Prop
 | none,_=>True
 | some p,b=>p b
def preK {β:Type}:Option (β->Prop)->β->Prop->Prop
 | none,_,Q=>Q
 | some p,b,Q=>p b/\Q
theorem preK_ok {β:Type} {o:Option (β->Prop)} {b:β} {Q:Prop} (h:preK o b Q):preOf o b/\Q:=by
 cases o with
 | none=>exact ⟨trivial,h⟩
 | some p=>exact h
def altOut {β:Type}:List ((β->Bool)×(β->L))->(β->L)->β->L
 | [],out,b=>out b
 | (q,o2)::r,out,b=>bif q b then o2 b else altOut r out b
def altK {β:Type}:List ((β->Bool)×(β->L))->(β->L)->β->(L->Prop)->Prop
 | [],out,b,K=>K (out b)
 | (q,o2)::r,out,b,K=>(q b=true->K (o2 b))/\(q b=false->altK r out b K)
theorem altK_ok {β:Type}:∀ {alt:List ((β->Bool)×(β->L))} {out:β->L} {b:β} {K:L->Prop},altK alt out b K->K (altOut alt out b)
 | [],_,_,_,h=>h
 | (q,o2)::r,out,b,K,h=>by
  simp only [altK] at h
  simp only [altOut]
  cases hq:q b with
  | true=>exact h.1 hq
  | false=>exact altK_ok (h.2 hq)
structure Con (P:Program) where
 f:FuncId
 m:Nat
 mds:List Md
 bx:List Nat
 β:Type
 pre:Option (β->Prop)
 ins:β->L
 out:β->L
 alt:List ((β->Bool)×(β->L))
 ok:∀ b,preOf pre b->FunOK P f m bx (ins b) (·=altOut alt out b)
structure Fam where
 α:Type
 st:α->L
abbrev KN:=List (Nat×Bool)
def kget:KN->Nat->Option Bool
 | [],_=>none
 | (s,b)::r,t=>if s=t then some b else kget r t
def kdel:KN->Nat->KN
 | [],_=>[]
 | (s,b)::r,t=>if s=t then kdel r t else (s,b)::kdel r t
def kofO (kn:KN):Operand->Option Bool
 | .tmp t=>kget kn t
 | .const (.bool b)=>some b
 | _=>none
def kof (kn:KN):Op->Option Bool
 | .move x=>kofO kn x
 | .assign x=>kofO kn x
 | .pick c a b=>match kofO kn c with
  | some true=>kofO kn a
  | some false=>kofO kn b
  | none=>none
 | .unOp .not _ x=>match kofO kn x with
  | some true=>some false
  | some false=>some true
  | none=>none
 | _=>none
def kput (kn:KN) (o:Oper):KN:=match o.dst with
 | none=>kn
 | some d=>match kof kn o.op with
  | some b=>(d,b)::kdel kn d
  | none=>kdel kn d
def koff (kn:KN) (o:Oper):KN:=match o.dst with
 | none=>kn
 | some d=>kdel kn d
def freeOf (σ:St):Op->Bool
 | .binOp .quo _ _ _ _=>false
 | .binOp .rem _ _ _ _=>false
 | .binOp .shr _ _ _ _=>false
 | .binOp .add _ x _ _=>match oneC σ x with
  | some (.s _)=>false
  | _=>true
 | .binOp .eql _ _ y _=>match arg1 σ y with
  | some (.one (.c (.vl _)))=>false
  | _=>true
 | .binOp .neq _ _ y _=>match arg1 σ y with
  | some (.one (.c (.vl _)))=>false
  | _=>true
 | .load _ x=>match one1 σ x with
  | some (.p _ _ _ _ _ _ _)=>false
  | _=>true
 | .indexAddr _ _ _=>false
 | .index _ _ _=>false
 | .slice _ _ _ _ _=>false
 | .store _ p x=>match eat σ x with
  | some e=>match one1 (ups σ e.out) p with
   | some (.p _ _ _ _ _ _ _)=>false
   | _=>true
  | none=>false
 | .call ⟨.builtin .append,_,_⟩=>false
 | _=>true
theorem bin_free {op:BinOp} {x y z:CV} {ob:Prop} (h:bin op x y=some (ob,z)) (h1:op≠.quo) (h2:op≠.rem) (h2':op≠.shr) (h3:op=.add->∀ s,x≠.s s):ob:=by
 unfold bin at h
 split at h
 ·split at h
  ·split at h<;>first | (exfalso;first | exact h1 rfl | exact h2 rfl | exact h2' rfl) | (injection h with h;injection h with h _;subst h;trivial) | cases h
  ·cases h
 ·split at h<;>first | (exact (h3 rfl _ rfl).elim) | (injection h with h;injection h with h _;subst h;trivial) | cases h
 ·cases h
theorem vEq_free {T:Tab} {σ:St} {neg:Bool} {t:TypeId} {x y:Res} {z:CV} {ob:Prop} (h:vEq T σ neg t x y=some (ob,z)) (hy:∀ v,y≠.one (.c (.vl v))):ob:=by
 unfold vEq at h
 split at h
 ·split at h
  ·split at h
   ·injection h with h;injection h with h _;subst h;trivial
   ·cases h
  ·split at h
   ·exact (hy _ rfl).elim
   ·cases h
  ·split at h
   ·split at h
    ·cases h
    ·obtain ⟨r,_,h⟩:=Option.map_eq_some_iff.1 h
     injection h with h _;subst h;trivial
   ·cases h
  ·cases h
 ·cases h
theorem vLoad_free {T:Tab} {σ:St} {t:TypeId} {s:SC} {z:Res} {ob:Prop} (h:vLoad T σ t s=some (ob,z)) (hs:∀ e k o p n i j,s≠.p e k o p n i j):ob:=by
 unfold vLoad at h
 split at h
 ·split at h
  ·split at h
   ·split at h
    ·injection h with h;injection h with h _;subst h;trivial
    ·cases h
   ·split at h
    ·split at h
     ·injection h with h;injection h with h _;subst h;trivial
     ·cases h
    ·cases h
  ·split at h
   ·split at h
    ·cases h
    ·split at h
     ·split at h
      ·injection h with h;injection h with h _;subst h;trivial
      ·cases h
     ·split at h
      ·split at h
       ·injection h with h;injection h with h _;subst h;trivial
       ·cases h
      ·cases h
   ·cases h
  ·exact (hs _ _ _ _ _ _ _ rfl).elim
  ·cases h
 ·cases h
theorem rd1_free {T:Tab} {σ:St} {op:Op} {ob:Prop} {r:Res} (h:rd1 T σ op=some (ob,r)) (hf:freeOf σ op=true):ob:=by
 unfold rd1 at h
 split at h
 ·obtain ⟨_,_,h⟩:=Option.map_eq_some_iff.1 h;injection h with h _;subst h;trivial
 ·split at h
  ·obtain ⟨_,_,h⟩:=Option.map_eq_some_iff.1 h;injection h with h _;subst h;trivial
  ·obtain ⟨_,_,h⟩:=Option.map_eq_some_iff.1 h;injection h with h _;subst h;trivial
  ·cases h
 ·split at h
  ·split at h
   ·injection h with h;injection h with h _;subst h;trivial
   ·cases h
  ·cases h
 ·split at h
  ·injection h with h;injection h with h _;subst h;trivial
  ·cases h
 ·split at h
  ·split at h
   ·split at h
    ·injection h with h;injection h with h _;subst h;trivial
    ·cases h
   ·cases h
  ·cases h
 ·rename_i t x y u
  have hy:∀ {s:Res},arg1 σ y=some s->∀ v,s≠.one (.c (.vl v)):=fun {s} hs v he=>by
   subst he
   simp [freeOf,hs] at hf
  split at h
  ·split at h
   ·rename_i hb
    injection h with h;injection h with h _;subst h
    exact bin_free hb (by simp) (by simp) (by simp) (by simp)
   ·split at h
    ·rename_i hs
     obtain ⟨q,hq,h⟩:=Option.map_eq_some_iff.1 h
     injection h with h _;subst h
     exact vEq_free hq (hy hs)
    ·cases h
  ·split at h
   ·rename_i hs
    obtain ⟨q,hq,h⟩:=Option.map_eq_some_iff.1 h
    injection h with h _;subst h
    exact vEq_free hq (hy hs)
   ·cases h
 ·rename_i t x y u
  have hy:∀ {s:Res},arg1 σ y=some s->∀ v,s≠.one (.c (.vl v)):=fun {s} hs v he=>by
   subst he
   simp [freeOf,hs] at hf
  split at h
  ·split at h
   ·rename_i hb
    injection h with h;injection h with h _;subst h
    exact bin_free hb (by simp) (by simp) (by simp) (by simp)
   ·split at h
    ·rename_i hs
     obtain ⟨q,hq,h⟩:=Option.map_eq_some_iff.1 h
     injection h with h _;subst h
     exact vEq_free hq (hy hs)
    ·cases h
  ·split at h
   ·rename_i hs
    obtain ⟨q,hq,h⟩:=Option.map_eq_some_iff.1 h
    injection h with h _;subst h
    exact vEq_free hq (hy hs)
   ·cases h
 ·rename_i op t x y u n1 n2
  split at h
  ·rename_i a b ha hb
   obtain ⟨q,hq,h⟩:=Option.map_eq_some_iff.1 h
   injection h with h _;subst h
   refine bin_free hq ?_ ?_ ?_ ?_
   ·rintro rfl;simp [freeOf] at hf
   ·rintro rfl;simp [freeOf] at hf
   ·rintro rfl;simp [freeOf] at hf
   ·rintro rfl s rfl;simp [freeOf,ha] at hf
  ·cases h
 ·split at h
  ·rename_i s hs
   refine vLoad_free h ?_
   rintro e k o p n i j rfl
   simp [freeOf,hs] at hf
  ·cases h
 ·split at h
  ·obtain ⟨_,_,h⟩:=Option.map_eq_some_iff.1 h;injection h with h _;subst h;trivial
  ·cases h
 ·split at h
  ·obtain ⟨_,_,h⟩:=Option.map_eq_some_iff.1 h;injection h with h _;subst h;trivial
  ·cases h
 ·simp [freeOf] at hf
 ·simp [freeOf] at hf
 ·simp [freeOf] at hf
 ·split at h
  ·obtain ⟨_,_,h⟩:=Option.map_eq_some_iff.1 h;injection h with h _;subst h;trivial
  ·cases h
 ·split at h
  ·injection h with h;injection h with h _;subst h;trivial
  ·cases h
 ·split at h
  ·injection h with h;injection h with h _;subst h;trivial
  ·cases h
 ·obtain ⟨_,_,h⟩:=Option.map_eq_some_iff.1 h;injection h with h _;subst h;trivial
 ·cases h
theorem vStore_free {T:Tab} {σ:St} {t:TypeId} {p x:Operand} {ob:Prop} {out:L} (h:vStore T σ t p x=some (ob,out)) (hf:freeOf σ (.store t p x)=true):ob:=by
 unfold vStore at h
 split at h
 ·split at h
  ·rename_i e he
   simp only [freeOf,he] at hf
   split at h
   ·split at h
    ·split at h
     ·split at h
      ·cases h
      ·split at h
       ·injection h with h;injection h with h _;subst h;trivial
       ·cases h
     ·cases h
    ·rename_i hp
     simp [hp] at hf
    ·cases h
   ·cases h
  ·cases h
 ·cases h
theorem act1_free {T:Tab} {σ:St} {o:Oper} {ob:Prop} {outs:L} (h:act1 T σ o=some (ob,outs)) (hf:freeOf σ o.op=true):ob:=by
 unfold act1 at h
 split at h
 ·split at h
  ·rename_i t p x ho
   rw [ho] at hf
   exact vStore_free h hf
  ·cases h
 ·split at h
  ·rename_i hr
   injection h with h;injection h with h _;subst h
   exact rd1_free hr hf
  ·rename_i hr
   injection h with h;injection h with h _;subst h
   exact rd1_free hr hf
  ·split at h
   ·split at h
    ·injection h with h;injection h with h _;subst h;trivial
    ·cases h
   ·split at h
    ·injection h with h;injection h with h _;subst h;trivial
    ·cases h
   ·split at h
    ·injection h with h;injection h with h _;subst h;trivial
    ·cases h
   ·split at h
    ·split at h
     ·injection h with h;injection h with h _;subst h;trivial
     ·cases h
    ·cases h
   ·split at h
    ·split at h
     ·injection h with h;injection h with h _;subst h;trivial
     ·cases h
    ·cases h
   ·split at h
    ·split at h
     ·split at h
      ·injection h with h;injection h with h _;subst h;trivial
      ·cases h
     ·cases h
    ·cases h
   ·split at h
    ·split at h
     ·split at h
      ·split at h
       ·split at h
        ·injection h with h;injection h with h _;subst h;trivial
        ·cases h
       ·cases h
      ·cases h
     ·cases h
    ·cases h
   ·rename_i ho
    rw [ho] at hf
    simp [freeOf] at hf
   ·cases h
def con0 {P:Program} {β:Type} {f:FuncId} {m:Nat} {bx:List Nat} {ins out:β->L} (mds:List Md) (h:∀ b,FunOK P f m bx (ins b) (·=out b)):Con P:=⟨f,m,mds,bx,β,none,ins,out,[],fun b _=>h b⟩
def conP {P:Program} {β:Type} {p:β->Prop} {f:FuncId} {m:Nat} {bx:List Nat} {ins out:β->L} (mds:List Md) (h:∀ b,p b->FunOK P f m bx (ins b) (·=out b)):Con P:=⟨f,m,mds,bx,β,some p,ins,out,[],fun b hb=>h b hb⟩
end Go.Proofs.AI
namespace Go.Proofs.AI
open Go.RowKit
set_option linter.unusedVariables false
set_option linter.unusedSimpArgs false
def bits:List Nat->Nat
 | []=>0
 | k::r=>Nat.lor (Nat.shiftLeft 1 k) (bits r)
def hasB (m j:Nat):Bool:=Nat.beq (Nat.land (Nat.shiftRight m j) 1) 1
theorem hasB_eq (m j:Nat):hasB m j=m.testBit j:=by
 have h1:hasB m j=decide (m >>> j % 2=1):=by
  unfold hasB
  rw [show Nat.land (Nat.shiftRight m j) 1=(m >>> j) % 2 from Nat.and_one_is_mod _]
  cases h:Nat.beq (m >>> j % 2) 1 with
  | true=>exact (decide_eq_true (Nat.eq_of_beq_eq_true h)).symm
  | false=>exact (decide_eq_false (Nat.ne_of_beq_eq_false h)).symm
 rw [h1]
 simp [Nat.testBit,Nat.and_comm 1,Nat.and_one_is_mod]
theorem lor_bit (a b j:Nat):(Nat.lor a b).testBit j=(a.testBit j||b.testBit j):=Nat.testBit_or a b j
theorem one_bit (k j:Nat):(Nat.shiftLeft 1 k).testBit j=decide (j=k):=by
 rw [show Nat.shiftLeft 1 k=1 <<< k from rfl,Nat.testBit_shiftLeft]
 by_cases h:j=k
 ·subst h;simp
 ·simp only [h,decide_false,Bool.and_eq_false_iff,decide_eq_false_iff_not]
  by_cases h1:k<=j
  ·exact .inr (by
    have:j-k≠0:=by omega
    have h2:=Nat.testBit_one_eq_true_iff_self_eq_zero (i:=j-k)
    cases h3:Nat.testBit 1 (j-k) with
    | false=>rfl
    | true=>exact absurd (h2.1 h3) this)
  ·exact .inl h1
theorem bits_bit:∀ (l:List Nat) (j:Nat),(bits l).testBit j=true↔j∈l
 | [],j=>by simp [bits]
 | k::r,j=>by rw [bits,lor_bit,one_bit,Bool.or_eq_true,bits_bit r,List.mem_cons];simp
def aparts (a w b v:Nat):Bool:=Nat.beq (Nat.land w b) 0&&Nat.beq (Nat.land v a) 0
theorem land_zero {a b j:Nat} (h:Nat.beq (Nat.land a b) 0=true) (ha:a.testBit j=true):b.testBit j=false:=by
 have h0:a &&& b=0:=Nat.eq_of_beq_eq_true h
 have:=congrArg (·.testBit j) h0
 simpa [ha] using this
theorem aparts_ok {x y:RW} (h:aparts (Nat.lor (bits x.r) (bits x.w)) (bits x.w) (Nat.lor (bits y.r) (bits y.w)) (bits y.w)=true):x.apart y=true:=by
 simp only [aparts,Bool.and_eq_true] at h
 simp only [RW.apart,Bool.and_eq_true,List.all_eq_true,Bool.not_eq_true',List.contains_eq_mem,decide_eq_false_iff_not]
 have one:∀ {w a b:List Nat},Nat.beq (Nat.land (bits w) (Nat.lor (bits a) (bits b))) 0=true->∀ k∈w,¬ k∈a/\¬ k∈b:=fun {w a b} h k hk=>by
  have:=land_zero h ((bits_bit w k).2 hk)
  rw [lor_bit,Bool.or_eq_false_iff] at this
  refine ⟨fun hc=>?_,fun hc=>?_⟩
  ·rw [(bits_bit a k).2 hc] at this;simp at this
  ·rw [(bits_bit b k).2 hc] at this;simp at this
 exact ⟨one h.1,one h.2⟩
def am (A:List Nat):List Edge->Nat
 | []=>0
 | e::r=>match Region.binds .any e with
  | true=>Nat.lor (Nat.lor (Nat.shiftLeft 1 e.on) (A.getD e.on 0)) (am A r)
  | false=>am A r
theorem am_bit {A:List Nat}:∀ {l:List Edge} {j:Nat},(am A l).testBit j=true->∃ e∈l,Region.binds .any e=true/\(e.on=j∨(A.getD e.on 0).testBit j=true)
 | [],j,h=>by simp [am] at h
 | e::r,j,h=>by
  simp only [am] at h
  split at h
  ·rename_i hb
   rw [lor_bit,lor_bit,one_bit,Bool.or_eq_true,Bool.or_eq_true] at h
   rcases h with (h | h) | h
   ·exact ⟨e,by simp,hb,.inl (by simpa using (of_decide_eq_true h).symm)⟩
   ·exact ⟨e,by simp,hb,.inr h⟩
   ·obtain ⟨e',h1,h2⟩:=am_bit h
    exact ⟨e',by simp [h1],h2⟩
  ·obtain ⟨e',h1,h2⟩:=am_bit h
   exact ⟨e',by simp [h1],h2⟩
def fcN (n:Nat) (k:Nat->Bool):Bool:=match n with
 | 0=>k 0
 | m+1=>k (m+1)
theorem fcN_eq (n:Nat) (k:Nat->Bool):fcN n k=k n:=by cases n<;>rfl
def snocK:List Nat->Nat->(List Nat->Bool)->Bool
 | [],a,k=>k [a]
 | x::r,a,k=>snocK r a fun r=>k (x::r)
theorem snocK_eq:∀ (l:List Nat) (a:Nat) (k:List Nat->Bool),snocK l a k=k (l++[a])
 | [],a,k=>rfl
 | x::r,a,k=>by simp [snocK,snocK_eq r]
def withA:List Oper->List Nat->(List Nat->Bool)->Bool
 | [],A,k=>k A
 | o::r,A,k=>fcN (am A o.after.toList) fun a=>snocK A a fun A=>withA r A k
theorem withA_some:∀ {l:List Oper} {A:List Nat} {k:List Nat->Bool},withA l A k=true->∃ A',k A'=true
 | [],A,k,h=>⟨A,h⟩
 | o::r,A,k,h=>by
  simp only [withA,fcN_eq,snocK_eq] at h
  exact withA_some h
def maskOf (x:RW):Nat×Nat:=(Nat.lor (bits x.r) (bits x.w),bits x.w)
def withM:List RW->(List (Nat×Nat)->Bool)->Bool
 | [],k=>k []
 | x::r,k=>fcN (bits x.w) fun w=>fcN (Nat.lor (bits x.r) w) fun a=>withM r fun r=>k ((a,w)::r)
theorem withM_eq:∀ (l:List RW) (k:List (Nat×Nat)->Bool),withM l k=k (l.map maskOf)
 | [],k=>rfl
 | x::r,k=>by simp [withM,fcN_eq,withM_eq r,maskOf]
def clearB (a:Nat) (x:Nat×Nat):List (Nat×Nat)->Nat->Nat->Bool
 | _,_,0=>true
 | y::r,j,i+1=>(aparts y.1 y.2 x.1 x.2||hasB a j)&&clearB a x r (j+1) i
 | [],_,_+1=>false
theorem clearB_ok {a:Nat} {x:Nat×Nat}:∀ {M:List (Nat×Nat)} {j i:Nat},clearB a x M j i=true->∀ k,k<i->∃ y,M[k]?=some y/\(aparts y.1 y.2 x.1 x.2=true∨a.testBit (j+k)=true)
 | _,_,0,_,k,hk=>by omega
 | [],_,_+1,h,_,_=>by simp [clearB] at h
 | y::r,j,i+1,h,k,hk=>by
  simp only [clearB,Bool.and_eq_true,Bool.or_eq_true,hasB_eq] at h
  cases k with
  | zero=>exact ⟨y,by simp,h.1⟩
  | succ k =>
   obtain ⟨y',h1,h2⟩:=clearB_ok h.2 k (by omega)
   exact ⟨y',by simpa using h1,by rw [show j+(k+1)=j+1+k by omega];exact h2⟩
def dstB (n:Nat) (pn:List Nat) (o:Oper):Bool:=match o.dst with
 | some d=>Nat.ble (d+1) n&&!pn.contains d
 | none=>true
def okFrom (n:Nat) (pn:List Nat) (A:List Nat) (M:List (Nat×Nat)):List Oper->List Nat->List (Nat×Nat)->Nat->Bool
 | [],_,_,_=>true
 | o::r,a::ra,x::rx,i=>(o.after.toList.all fun e=>!Region.binds .any e||Nat.ble (e.on+1) i)&&Nat.beq a (am A o.after.toList)&&clearB a x M 0 i&&dstB n pn o&&okFrom n pn A M r ra rx (i+1)
 | _,_,_,_=>false
theorem okFrom_at {n:Nat} {pn:List Nat} {A:List Nat} {M:List (Nat×Nat)}:∀ {r:List Oper} {ra:List Nat} {rx:List (Nat×Nat)} {i:Nat},okFrom n pn A M r ra rx i=true->∀ (j:Nat) o,r[j]?=some o ->
  ∃ a x,ra[j]?=some a/\rx[j]?=some x/\(∀ e∈o.after.toList,Region.binds .any e=true->e.on<i+j)/\a=am A o.after.toList/\clearB a x M 0 (i+j)=true/\∀ d,o.dst=some d->d<n/\d ∉ pn
 | [],_,_,_,_,j,o,ho=>by simp at ho
 | _::_,[],_,_,h,_,_,_=>by simp [okFrom] at h
 | _::_,_::_,[],_,h,_,_,_=>by simp [okFrom] at h
 | o'::r,a::ra,x::rx,i,h,j,o,ho=>by
  simp only [okFrom,Bool.and_eq_true] at h
  obtain ⟨⟨⟨⟨h1,h2⟩,h3⟩,h4⟩,h5⟩:=h
  cases j with
  | zero =>
   simp at ho;subst ho
   refine ⟨a,x,by simp,by simp,fun e he hb=>by have:=List.all_eq_true.1 h1 e he;rw [hb] at this;exact Nat.le_of_ble_eq_true (by simpa using this),Nat.eq_of_beq_eq_true h2,h3,fun d hd=>?_⟩
   simp only [dstB,hd,Bool.and_eq_true] at h4
   exact ⟨Nat.le_of_ble_eq_true h4.1,by simpa using h4.2⟩
  | succ j =>
   have:=okFrom_at h5 j o (by simpa using ho)
   rw [show i+1+j=i+(j+1) by omega] at this
   simpa using this
def okMask (n:Nat) (pn:List Nat) (ops:List Oper) (rw:List RW):Bool:=withA ops [] fun A=>withM rw fun M=>okFrom n pn A M ops A M 0
theorem region_mask {P:Program} {S:List Nat} {id:Nat} {l:List Oper} {rw:List RW} {cx:Cx} {σ τ:St} {a:Act} {w:World} {Q:Exit->Act->World->Prop} (hP:cx.P=P) (hm:P.follows .mixedOrders=true)
  (hok:okMask cx.n cx.pn l rw=true) (hbx:Bxs S σ) (ht:Tr P S l.toArray (rwAt rw) (List.range l.length) σ τ) (hr:At cx σ a w) (hQ:∀ a w,At cx τ a w->Q .normal a w):(Code.region id l.toArray true).wp P Q a w:=by
 unfold okMask at hok
 obtain ⟨A,hok⟩:=withA_some hok
 rw [withM_eq] at hok
 have fact:=okFrom_at hok
 simp only [Nat.zero_add] at fact
 generalize hanc:(fun i=>(List.range l.length).filter fun j=>(A.getD i 0).testBit j)=anc
 have inAnc:∀ i j,j∈anc i↔j<l.length/\(A.getD i 0).testBit j=true:=fun i j=>by subst hanc;simp
 have hall:∀ (i:Nat) o,l[i]?=some o->(∀ e∈o.after,Region.binds .any e=true->e.on<i)/\(∀ j∈anc i,∃ e∈o.after,Region.binds .any e=true/\(e.on=j∨j∈anc e.on)) /\
   (∀ j<i,(rwAt rw j).apart (rwAt rw i)=true∨j∈anc i)/\(∀ d,o.dst=some d->d<cx.n/\d ∉ cx.pn):=by
  intro i o ho
  have hi:i<l.length:=(List.getElem?_eq_some_iff.1 ho).1
  obtain ⟨m,x,h1,h2,h3,h4,h5,h6⟩:=fact i o ho
  have hA:A.getD i 0=m:=by simp [List.getD_eq_getElem?_getD,h1]
  refine ⟨fun e he=>h3 e (by simpa using he),fun j hj=>?_,fun j hj=>?_,h6⟩
  ·obtain ⟨hj1,hj2⟩:=(inAnc i j).1 hj
   rw [hA,h4] at hj2
   obtain ⟨e,he,hb,h7⟩:=am_bit hj2
   exact ⟨e,by simpa using he,hb,h7.imp (fun h=>h) fun h7=>(inAnc _ _).2 ⟨hj1,h7⟩⟩
  ·obtain ⟨y,h7,h8⟩:=clearB_ok h5 j hj
   rw [Nat.zero_add] at h8
   rcases h8 with h8 | h8
   ·left
    rw [List.getElem?_map] at h7 h2
    obtain ⟨y0,e1,rfl⟩:=Option.map_eq_some_iff.1 h7
    obtain ⟨x0,e2,rfl⟩:=Option.map_eq_some_iff.1 h2
    simp only [rwAt,List.getD_eq_getElem?_getD,e1,e2,Option.getD_some]
    exact aparts_ok h8
   ·exact .inr ((inAnc i j).2 ⟨by omega,by rw [hA];exact h8⟩)
 have get:∀ (i:Nat) o,l.toArray[i]?=some o->l[i]?=some o:=fun i o h=>by simpa using h
 refine wp_region_any hm (tr_any (anc:=anc) (fun i o ho j hj=>(hall i o (get i o ho)).2.1 j hj) (fun i o ho=>(hall i o (get i o ho)).1)
  (fun i hi j hj=>(hall i _ (List.getElem?_eq_getElem (by simpa using hi))).2.2.1 j hj) hP (fun i o d ho hd=>(hall i o (get i o ho)).2.2.2 d hd) hQ _ _ (List.range l.length) σ a _ (by simp) (by simp) (fun i=>?_) (List.pairwise_lt_range) (fun i o ho hl=>?_) ht hbx hr.drew)
 ·simp only [List.mem_range,List.size_toArray]
  constructor
  ·intro h
   refine ⟨h,?_⟩
   simp [Array.getD_eq_getD_getElem?,h]
  ·exact fun h=>h.1
 ·have hi:i<l.length:=(List.getElem?_eq_some_iff.1 (get i o ho)).1
  simp [Array.getD_eq_getD_getElem?,hi] at hl
end Go.Proofs.AI
namespace Go.Proofs.AI
open Go.RowKit
set_option linter.unusedVariables false
set_option linter.unusedSimpArgs false
def sip (T:Tab) (σ:St) (t:TypeId) (x:Operand):Option Ate :=
 match x with
 | .tmp k=>match σ k with
  | some ⟨.box,cells,l⟩=>match T t with
   | some i=>match i.k with
    | .st=>if i.size=cells.length then some ⟨true,cells,[(k,⟨.box,cells.map unOw,l⟩)]⟩ else none
    | _=>none
   | none=>none
  | _=>none
 | _=>none
theorem sip_ok {cx:Cx} {I:Nat->Prop} {U:Nat->Nat->Value} {B:Nat->Nat×Nat} {F:Nat->FP} {σ:St} {a:Act} {w:World} (h:RelW cx I U B F σ a w) {T:Tab} (hT:TabOk cx.P T) {t:TypeId} {x:Operand} {e:Ate} (he:sip T σ t x=some e) :
  ∃ v us F' N,(Instr.loadAt t (a.eval x)).run cx.P w=.ok v w/\Eaten cx I U B (ups σ e.out) a w F v e us F' N:=by
 unfold sip at he
 split at he
 ·rename_i k
  split at he
  ·rename_i cells l hK
   split at he
   ·rename_i i hi
    split at he
    ·rename_i hk
     split at he
     ·rename_i hsz
      injection he with he;subst he
      obtain ⟨hkn,hroot,_⟩:=h.key k _ hK
      obtain ⟨N,n1,n2,n3,n4⟩:=h.takeAll hK
      have hne:k≠cx.n:=Nat.ne_of_lt hkn
      obtain ⟨_,_,hv,cur,e,hb,hcur⟩:=hroot
      have hcell:∀ j,j<cells.length->w.cell? ⟨(B k).1,(B k).2+j,none⟩=some (U k j):=fun j hj=>by simp [World.cell?,hb,hcur j hj]
      have hev:a.eval (.tmp k)=.pointer (some ⟨(B k).1,(B k).2,none⟩):=hv
      refine ⟨_,U k,_,N,by rw [hev];exact load_agg hT hi hk (U k) (fun j hj=>by rw [Addr.add_lit];exact hcell j (by omega)),n4,?_,n1,n2,fun o b hb=>⟨?_,fun hf=>hne (h.dis _ _ _ (n3 o b hb).1 hf),(n3 o b hb).2⟩,fun b hb=>?_,fun b hb=>?_⟩
      ·simp only [valCells,if_true]
       refine ⟨_,rfl,by simp [hsz],fun o ho=>?_⟩
       have ho:o<i.size:=by rw [hsz];exact ho
       simp [ho]
      ·simp [Ne.symm hne];exact .inr ⟨o,hb⟩
      ·simp [Ne.symm hne];exact .inl hb
      ·simpa [Ne.symm hne] using hb
     ·cases he
    ·cases he
   ·cases he
  ·cases he
 ·cases he
theorem snd_sip {P:Program} {T:Tab} (hT:TabOk P T) {σ:St} {o:Oper} {d:Nat} {t:TypeId} {x:Operand} (hd:o.dst=some d) (ho:o.op=.load t x) {e:Ate} (he:sip T σ t x=some e) :
  Snd P σ o (up (ups σ e.out) d ⟨if e.agg then .agg else .one,e.cells,logAt (ups σ e.out) d⟩):=by
 intro cx a w hP ⟨I,U,B,F,hr⟩ hdn K Q hK
 subst hP
 obtain ⟨v,us,F',N,hl,hE⟩:=sip_ok (held_none hr) hT he
 unfold Oper.wp execOp
 simp only [ho]
 rw [Sem.run_bind,hl]
 simp only [Result.andThen,Sem.run_pure,Oper.upon_value]
 rw [hd]
 exact hK _ _ (hE.put (by simp) (hdn d hd))
theorem sub_sip {σ σ':St} (h:Sub σ σ') {T:Tab} {t:TypeId} {x:Operand} {e:Ate} (hs:sip T σ t x=some e):sip T σ' t x=some e:=by
 cases x with
 | tmp k =>
  simp only [sip] at hs ⊢
  cases hk:σ k with
  | none=>rw [hk] at hs;cases hs
  | some K=>rw [hk] at hs;rw [h k K hk];exact hs
 | _=>cases hs
section
variable {P:Program} {S:List Nat} {ops:Array Oper} {i:Nat} {o:Oper} {σ:St} {T:Tab}
theorem ops_sip (hT:TabOk P T) (hi:ops[i]?=some o) (hw:Want ops σ o.guard true) {d:Nat} {t:TypeId} {x:Operand} (hd:o.dst=some d) (ho:o.op=.load t x) {e:Ate} (he:sip T σ t x=some e) :
  OpS P S ops i σ (e.out++[(d,⟨if e.agg then .agg else .one,e.cells,logAt (ups σ e.out) d⟩)]):=by
 refine ops_on hi hw fun σ' hs hl=>?_
 rw [ups_append]
 simp only [ups]
 rw [<- logAt_ups (hl d hd)]
 exact snd_sip hT hd ho (sub_sip hs he)
end
def hold (σ:St) (x:Operand):Option L:=match x with
 | .tmp t=>match σ t with
  | some K=>match isVal K.sh with
   | true=>match grabs K.cells.length σ t 0 with
    | some (xs,o1)=>some (o1++[(t,⟨K.sh,xs.map SC.c,logAt (ups σ o1) t⟩)])
    | none=>none
   | false=>none
  | none=>none
 | _=>none
theorem put_self (a:Act) (t:Nat):a.put (some t) (a.eval (.tmp t))=a:=by
 obtain ⟨tm,df⟩:=a
 simp only [Act.put,Act.eval]
 congr 1
 apply Array.ext
 ·simp
 ·intro i h1 h2
  rw [Array.getElem_setIfInBounds]
  split
  ·rename_i h;subst h
   rw [Array.getD_eq_getD_getElem?,Array.getElem?_eq_getElem h2];rfl
  ·rfl
theorem hold_ok {cx:Cx} {σ:St} {a:Act} {w:World} (h:Rel cx σ a w) {x:Operand} {out:L} (he:hold σ x=some out):Rel cx (ups σ out) a w:=by
 obtain ⟨I,U,B,F,hr⟩:=h
 unfold hold at he
 split at he
 ·rename_i t
  split at he
  ·rename_i K hK
   split at he
   ·rename_i hv
    split at he
    ·rename_i xs o1 hg
     injection he with he;subst he
     obtain ⟨F1,N1,hl,g1⟩:=grabs_ok _ (held_none hr) hg
     obtain ⟨htn,hroot,_⟩:=hr.key t K hK
     have hroot2:=hroot.2
     have hE:Eaten cx I U B (ups σ o1) a w (fun t=>if t=cx.n then FP.none else F t) (a.eval (.tmp t)) ⟨K.sh==.agg,xs.map SC.c,o1⟩ (U t) F1 N1:=by
      refine ⟨g1.rel,?_,fun o y hy=>?_,g1.dis,g1.sub,g1.old,g1.new⟩
      ·simp only [valCells,Act.eval]
       cases hs:K.sh with
       | one=>simp only [hs] at hroot2;simpa [hl] using hroot2
       | agg=>simp only [hs] at hroot2;simpa [hl] using hroot2
       | tup sig=>simp [hs,isVal] at hv
       | box=>simp [hs,isVal] at hv
      ·simp only [List.getElem?_map] at hy
       obtain ⟨z,hz,rfl⟩:=Option.map_eq_some_iff.1 hy
       have h1:=g1.rep o z hz
       simp only [Nat.zero_add] at h1
       exact h1
     have:=hE.put (by simp) htn
     rw [put_self] at this
     rw [ups_append]
     simp only [ups]
     have hsh:(if (K.sh==Sh.agg)=true then Sh.agg else Sh.one)=K.sh:=by
      cases hs:K.sh with
      | one=>rfl
      | agg=>rfl
      | tup sig=>simp [hs,isVal] at hv
      | box=>simp [hs,isVal] at hv
     simp only [hsh] at this
     exact this
    ·cases he
   ·cases he
  ·cases he
 ·cases he
theorem sub_hold {σ σ':St} (h:Sub σ σ') {x:Operand} {out:L} (he:hold σ x=some out):hold σ' x=some out:=by
 cases x with
 | tmp t =>
  simp only [hold] at he ⊢
  cases hk:σ t with
  | none=>rw [hk] at he;cases he
  | some K =>
   rw [hk] at he;rw [h t K hk]
   simp only at he ⊢
   split at he
   ·split at he
    ·rename_i xs o1 hg
     simp only [sub_grabs _ h hg]
     have ex:∀ (o:L) (σ:St),(∃ K,σ t=some K)->∃ K,ups σ o t=some K:=by
      intro o
      induction o with
      | nil=>intro σ h;exact h
      | cons p o ih=>intro σ h;exact ih _ (by obtain ⟨K,hK⟩:=h;by_cases e:t=p.1<;>simp [up,e,hK])
     obtain ⟨K',hK'⟩:=ex o1 σ ⟨K,hk⟩
     have hK2:=sub_ups o1 h t K' hK'
     have:logAt (ups σ' o1) t=logAt (ups σ o1) t:=by simp only [logAt,hK',hK2]
     rw [this];exact he
    ·cases he
   ·cases he
 | _=>cases he
def vStoreT (T:Tab) (σ:St) (t:TypeId) (p x:Operand):Option (Prop×L):=match hold σ x with
 | some o1=>match vStore T (ups σ o1) t p x with
  | some (ob,out)=>some (ob,o1++out)
  | none=>none
 | none=>none
section
variable {P:Program} {S:List Nat} {ops:Array Oper} {i:Nat} {o:Oper} {σ:St} {T:Tab}
theorem ops_storeT (hT:TabOk P T) (hi:ops[i]?=some o) (hw:Want ops σ o.guard true) {t:TypeId} {p x:Operand} {ob:Prop} {out:List (Nat×Ky)} (hd:o.dst=none) (ho:o.op=.store t p x) (hv:vStoreT T σ t p x=some (ob,out)) (hob:ob) :
  OpS P S ops i σ out:=by
 unfold vStoreT at hv
 split at hv
 ·rename_i o1 hh
  split at hv
  ·rename_i ob' out' hs
   injection hv with hv;injection hv with h1 h2;subst h1 h2
   refine ops_on hi hw fun σ' hs' hl=>?_
   have s1:=sub_hold hs' hh
   have s2:=snd_store hT hd ho (sub_vStore (sub_ups o1 hs') hs) hob
   rw [ups_append]
   intro cx a w hP hr hdn K Q hK
   exact s2 cx a w hP (hold_ok hr s1) hdn K Q hK
  ·cases hv
 ·cases hv
end
def lenF (T:Tab) (σ:St) (t:TypeId) (x:Operand):Option (Prop×CV) :=
 match one1 σ x with
 | some (.v e k o p n none)=>match σ k with
  | some K=>if stale K.log n o p then none else match K.cells[o]? with
   | some (.c y)=>match y.getF p with
    | some (.ow e' es)=>if e=e' then match T t with
     | some ⟨.sl _,_,_,_,_,_,_⟩=>some (wayOb y p,.n .i64 es.n)
     | _=>none
     else none
    | _=>none
   | _=>none
  | none=>none
 | _=>none
theorem lenF_ok {T:Tab} {σ:St} {t:TypeId} {x:Operand} {ob:Prop} {z:CV} (h:lenF T σ t x=some (ob,z)) (hob:ob):rd1 T σ (.call ⟨.builtin .len,#[x],#[t]⟩)=some (True,.one (.c z)):=by
 unfold lenF at h
 split at h
 ·rename_i e k o p n hx
  split at h
  ·rename_i K hK
   split at h
   ·cases h
   ·rename_i hs
    split at h
    ·rename_i y hy
     split at h
     ·rename_i e' es hg
      split at h
      ·rename_i he
       split at h
       ·rename_i hT
        injection h with h;injection h with h1 h2
        subst h1 h2
        have hget:=(getF_eq hob).trans hg
        simp only [rd1,hx,vLen,rowsAt,hK,hs,hy,hget,he,hT,if_true,Option.map_some,Bool.false_eq_true,if_false]
       ·cases h
      ·cases h
     ·cases h
    ·cases h
  ·cases h
 ·cases h
end Go.Proofs.AI
