/- Data, how they lie in memory, and contracts of functions. Conditions: none. -/
import Derived.Laws.StructEq
import Derived.KernelRfl
import Derived.IntWalk
import Derived.Test.YthahcnabgjgpfabGreatDoorProg
import Derived.Test.YthahcnabgjgpfabGreatDoorK01
namespace Go.Proofs.AI
open Go.RowKit
set_option linter.unusedVariables false
set_option linter.unusedSimpArgs false
def holdF (σ:St) (x:Operand):Option (Prop×L):=match x with
 | .tmp t=>match σ t with
  | some ⟨.one,[.v e k o p n none],_⟩=>match σ k with
   | some K=>match stale K.log n o p with
    | true=>none
    | false=>match K.cells[o]? with
     | some (.c y)=>match y.getF p with
      | some (.ow e' es)=>if e'=e then
        some (wayOb y p,[(k,⟨K.sh,K.cells.set o (.c (CV.put .any y p)),K.log⟩),(t,⟨.one,[.c (.ow e' es)],logAt (up σ k ⟨K.sh,K.cells.set o (.c (CV.put .any y p)),K.log⟩) t⟩)])
        else none
      | _=>none
     | _=>none
   | none=>none
  | _=>none
 | _=>none
theorem holdF_eq {σ:St} {x:Operand} {ob:Prop} {out:L} (h:holdF σ x=some (ob,out)) (hob:ob):hold σ x=some out /\
  ∃ t k e o p n lg K cs K2,out=[(k,⟨K.sh,cs,K.log⟩),(t,K2)]/\σ k=some K/\σ t=some ⟨.one,[.v e k o p n none],lg⟩/\∃ y es,K.cells[o]?=some (.c y)/\y.getF p=some (.ow e es):=by
 unfold holdF at h
 split at h
 ·rename_i t
  split at h
  ·rename_i e k o p n lg hK
   split at h
   ·rename_i K hk
    split at h
    ·cases h
    ·rename_i hs
     split at h
     ·rename_i y hy
      split at h
      ·rename_i e' es hg
       split at h
       ·rename_i he
        injection h with h;injection h with h1 h2;subst h1 h2 he
        have hget:=(getF_eq hob).trans hg
        refine ⟨?_,t,k,e',o,p,n,lg,K,_,_,rfl,hk,hK,y,es,hy,hg⟩
        simp [hold,hK,isVal,grabs,grab1,hk,hs,hy,hget,ups]
       ·cases h
      ·cases h
     ·cases h
   ·cases h
  ·cases h
 ·cases h
section
variable {P:Program} {S:List Nat} {ops:Array Oper} {i:Nat} {o:Oper} {σ:St} {T:Tab}
theorem Want.hold {x:Operand} {ob:Prop} {o1:L} (hh:holdF σ x=some (ob,o1)) (hob:ob) {g:Option (Nat×Bool)} (hw:Want ops σ g true):Want ops (ups σ o1) g true:=by
 obtain ⟨h1,t,k,e,q,p,n,lg,K,cs,K2,rfl,hk,ht,y,es,hy,hg⟩:=holdF_eq hh hob
 cases hw with
 | free=>exact .free
 | @yes g u og b w1 w2 w3 =>
  refine .yes w1 w2 ?_
  have hu1:u≠t:=fun e1=>by subst e1;simp [oneC,one1,ht,look] at w3
  have hu2:u≠k:=fun e1=>by
   subst e1
   simp only [oneC,one1,hk] at w3
   obtain ⟨sh,cells,l⟩:=K
   split at w3
   ·rename_i z hz
    split at hz
    ·rename_i K0 x l0 hK0
     cases hK0
     cases q with
     | zero =>
      simp at hy;subst hy
      injection hz with hz;injection w3 with w3;subst w3
      cases p with
      | nil=>simp [CV.getF] at hg;subst hg;simp [look] at hz
      | cons s r=>cases y<;>simp [CV.getF] at hg;simp [look] at hz
     | succ q=>simp at hy
    ·cases hz
    ·cases hz
   ·cases w3
  have:oneC (ups σ [(k,⟨K.sh,cs,K.log⟩),(t,K2)]) (.tmp u)=oneC σ (.tmp u):=by
   simp only [oneC,one1,ups,up,if_neg hu1,if_neg hu2]
  rw [this];exact w3
theorem ops_hold {x:Operand} {ob:Prop} {o1 outs:L} (hh:holdF σ x=some (ob,o1)) (hob:ob) (h:OpS P S ops i (ups σ o1) outs):OpS P S ops i σ (o1++outs):=by
 intro σ' hbx hsub hd cx a w hP hr hn K' Q hK
 obtain ⟨h1,t,k,e,q,p,n,lg,K,cs,K2,rfl,hk,ht,_⟩:=holdF_eq hh hob
 have s1:=sub_hold hsub h1
 refine h _ (fun u hu=>?_) (sub_ups _ hsub) (fun o d ho hod=>ups_same _ σ' σ d (.inr (hd o d ho hod))) cx a w hP (hold_ok hr s1) hn K' Q (fun a' w' hr'=>hK a' w' (by rw [ups_append];exact hr'))
 obtain ⟨cells,l2,g1,g2⟩:=hbx u hu
 show isBx (up (up σ' k _) t K2) u
 by_cases e1:u=t
 ·subst e1;rw [hsub _ _ ht] at g1;cases g1
 ·by_cases e2:u=k
  ·subst e2;rw [hsub _ _ hk] at g1;cases g1
   exact ⟨cs,l2,(if_neg e1).trans (if_pos rfl),g2⟩
  ·exact ⟨cells,l2,(if_neg e1).trans ((if_neg e2).trans g1),g2⟩
end
def lift (T:Tab) (σ:St) (t:TypeId) (x:Operand) (d:Nat):Option L:=match x with
 | .tmp q=>match σ q with
  | some ⟨.one,[.pr k o n],_⟩=>match σ k with
   | some ⟨.box,cells,lg⟩=>match gone lg n||k==d with
    | true=>none
    | false=>match cells[o]? with
     | some (.c (.ow e es))=>match T t with
      | some ⟨.sl _,_,_,_,_,_,_⟩=>some [(k,⟨.box,cells.set o (.v e d 0 [] (logAt σ d).length none),lg⟩),(d,⟨.one,[.c (.ow e es)],logAt σ d⟩)]
      | _=>none
     | _=>none
   | _=>none
  | _=>none
 | _=>none
theorem RelW.relook {cx:Cx} {I:Nat->Prop} {U:Nat->Nat->Value} {B:Nat->Nat×Nat} {F:Nat->FP} {σ:St} {a:Act} {w:World} (h:RelW cx I U B F σ a w) {k o d:Nat} {K:Ky} {e:TypeId} {y:CV} {lg:Log}
  (hk:σ k=some K) (ho:K.cells[o]?=some (.c .any)) (hd:σ d=some ⟨.one,[.c y],lg⟩) (hkd:k≠d) (hu:U k o=U d 0):RelW cx I U B F (up σ k ⟨K.sh,K.cells.set o (.v e d 0 [] lg.length none),K.log⟩) a w:=by
 have hlt:o<K.cells.length:=(List.getElem?_eq_some_iff.1 ho).1
 obtain ⟨hkn,hroot,⟨N,n1,n2,n3⟩,hrf⟩:=h.key k K hk
 have hpres:Pres cx.P w w K ⟨K.sh,K.cells.set o (.v e d 0 [] lg.length none),K.log⟩ (U k) (U k) (B k) (B k):=by
  refine ⟨Nat.le_refl _,fun n o' p hn hs=>⟨hs,fun x' y' hx' hy'=>?_⟩,fun n hn hg=>⟨hg,id,rfl⟩⟩
  by_cases e1:o'=o
  ·subst e1
   simp [List.getElem?_set,hlt] at hx'
  ·rw [List.getElem?_set_ne (Ne.symm e1)] at hx'
   exact ⟨x',y',hx',hy',rfl,fun e es he=>⟨es,he⟩⟩
 have hpall:∀ k' K',σ k'=some K'->∃ K'',up σ k ⟨K.sh,K.cells.set o (.v e d 0 [] lg.length none),K.log⟩ k'=some K''/\Pres cx.P w w K' K'' (U k') (U k') (B k') (B k'):=by
  intro k' K' hK'
  by_cases he:k'=k
  ·subst he
   rw [hk] at hK';cases hK'
   exact ⟨_,by simp only [up,if_true],hpres⟩
  ·exact ⟨K',by simp [up,he,hK'],h.same hK' (fun _ _=>rfl)⟩
 refine h.step (fun t=>t=k) h.size h.defers (fun t ht=>by simp [up,ht]) (fun t ht=>rfl) (fun t ht=>⟨rfl,rfl,rfl⟩) (fun b hb=>hb) (fun b hb=>.inl hb) (fun b hb=>rfl) (fun t K' ht hK'=>?_) (fun t K' _ hK'=>hpall t K' hK') h.dis h.own (fun t b ht hb=>?_) h.ro h.fr
 ·subst ht
  simp only [up,if_true] at hK'
  cases hK'
  refine ⟨hkn,⟨by simpa using hroot.1,?_⟩,⟨N,fun o' x hx=>?_,n2,n3⟩,hrf⟩
  ·have hr:=hroot.2
   cases hs:K.sh with
   | one=>simp only [hs] at hr ⊢;simpa using hr
   | agg=>simp only [hs] at hr ⊢;simpa using hr
   | box=>simp only [hs] at hr ⊢;simpa using hr
   | tup sig=>simp only [hs] at hr ⊢;exact hr
  ·by_cases e1:o'=o
   ·subst e1
    simp [List.getElem?_set,hlt] at hx
    subst hx
    refine ⟨(n1 _ _ ho:Rep cx.P w I .any _ _).one,⟨.one,[.c y],lg⟩,by simp [up,Ne.symm hkd,hd],Nat.le_refl _,fun _ x0 y0 hx0 hy0=>?_⟩
    simp [CV.get] at hx0 hy0
    exact ⟨U d 0,by simp [conc],by simp [sub,hu]⟩
   ·rw [List.getElem?_set_ne (Ne.symm e1)] at hx
    exact (n1 o' x hx).frame (fun _ _=>rfl) (fun _ h=>h) (fun _ h=>.inl h) hpall
 ·subst ht
  rcases h.may t b hb with h1 | h1 | ⟨K1,h1,h2,h3⟩
  ·exact .inl h1
  ·exact .inr (.inl h1)
  ·rw [hk] at h1;cases h1
   exact .inr (.inr ⟨⟨K.sh,K.cells.set o (.v e d 0 [] lg.length none),K.log⟩,by simp [up],by simpa [rootFP] using h2,by simpa using h3⟩)
theorem snd_lift {P:Program} {T:Tab} (hT:TabOk P T) {σ:St} {o:Oper} {d:Nat} {t:TypeId} {x:Operand} (hd:o.dst=some d) (ho:o.op=.load t x) {out:L} (he:lift T σ t x d=some out):Snd P σ o (ups σ out):=by
 intro cx a w hP ⟨I,U,B,F,hr⟩ hdn K Q hK
 subst hP
 unfold lift at he
 split at he
 ·rename_i q
  split at he
  ·rename_i k c n lq hq
   split at he
   ·rename_i cells lg hk
    split at he
    ·cases he
    ·rename_i hs
     split at he
     ·rename_i e es hc
      split at he
      ·rename_i hTt
       injection he with he;subst he
       have hr:=held_none hr
       simp only [Bool.or_eq_false_iff,beq_eq_false_iff_ne] at hs
       obtain ⟨hgn,hkd⟩:=hs
       have hcl:=(List.getElem?_eq_some_iff.1 hc).1
       obtain ⟨hkn,hroot,_⟩:=hr.key k _ hk
       obtain ⟨_,hqr,⟨Nq,q1,_⟩,_⟩:=hr.key q _ hq
       obtain ⟨_,K0,z1,z2,z3⟩:=q1 0 _ rfl
       rw [hk] at z1;cases z1
       have hv:a.eval (.tmp q)=.pointer (some ⟨(B k).1,(B k).2+c,none⟩):=by
        rw [show a.eval (.tmp q)=a.tmps.getD q undef from rfl,hqr.2.2];exact z3 hgn rfl
       obtain ⟨_,_,_,cur,e0,hb,hcur⟩:=hroot
       have hcell:w.cell? ⟨(B k).1,(B k).2+c,none⟩=some (U k c):=by simp [World.cell?,hb,hcur c hcl]
       have hload:=load_one hT hTt (fun x hx=>by cases hx;simp) hcell
       obtain ⟨v,N,t1,t2,t3,t4⟩:=hr.take hk hc (p:=[]) (y:=.ow e es) rfl
       obtain rfl:U k c=v:=by simpa [conc] using t1
       have hkn':k≠cx.n:=Nat.ne_of_lt hkn
       have hput:CV.put .any (.ow e es) []=.any:=rfl
       rw [hput] at t4
       have hdk:d≠k:=Ne.symm hkd
       have hlog:logAt (up σ k ⟨.box,cells.set c (.c .any),lg⟩) d=logAt σ d:=by simp [logAt,up,hdk]
       have p1:=t4.put (hdn d hd) (sh:=.one) (cells:=[.c (.ow e es)]) (v:=U k c) (us:=fun _=>U k c) (bb:=(0,0)) (Fr.refl _ _) (fun _ _ _=>rfl) ⟨fun o ho=>t2.one,rfl,rfl⟩
        ⟨fun o=>if o=0 then N else FP.none,fun o x hx=>?_,fun o o' b h1 h2=>?_,fun o b hb=>?_⟩ (fun b hb=>by simp [rootFP] at hb) (fun b hb=>?_)
       ·have p2:=p1.relook (k:=k) (o:=c) (d:=d) (e:=e) (K:=⟨.box,cells.set c (.c .any),lg⟩) (y:=.ow e es) (lg:=logAt σ d) (by simp [up,hkd]) (by simp [List.getElem?_set,hcl]) (by simp [up,hlog]) hkd (by simp [hkd])
        unfold Oper.wp execOp
        simp only [ho]
        rw [hv,Sem.run_bind,hload]
        simp only [Result.andThen,Sem.run_pure,Oper.upon_value]
        rw [hd]
        refine hK _ _ ?_
        have:ups σ [(k,(⟨.box,cells.set c (.v e d 0 [] (logAt σ d).length none),lg⟩:Ky)),(d,⟨.one,[.c (.ow e es)],logAt σ d⟩)]=up (up (up σ k ⟨.box,cells.set c (.c .any),lg⟩) d ⟨.one,[.c (.ow e es)],logAt (up σ k ⟨.box,cells.set c (.c .any),lg⟩) d⟩) k ⟨.box,(cells.set c (.c .any)).set c (.v e d 0 [] (logAt σ d).length none),lg⟩:=by
         rw [hlog]
         funext u
         simp only [ups,up,List.set_set]
         by_cases e1:u=d
         ·subst e1;simp [hdk]
         ·by_cases e2:u=k
          ·subst e2;simp [e1]
          ·simp [e1,e2]
        rw [this]
        exact ⟨_,_,_,_,p2⟩
       ·cases o with
        | zero=>simp at hx;subst hx;exact t2
        | succ o=>simp at hx
       ·have h1:(if o=0 then N else FP.none) b:=h1
        have h2:(if o'=0 then N else FP.none) b:=h2
        split at h1
        ·split at h2
         ·omega
         ·exact h2.elim
        ·exact h1.elim
       ·have hb:(if o=0 then N else FP.none) b:=hb
        split at hb
        ·exact ⟨.inl (by simp [Ne.symm hkn',hb]),by simp [rootFP]⟩
        ·exact hb.elim
       ·simp [Ne.symm hkn',FP.none] at hb
        exact (t3 b hb).2
      ·cases he
     ·cases he
   ·cases he
  ·cases he
 ·cases he
theorem sub_lift {σ σ':St} (h:Sub σ σ') {T:Tab} {t:TypeId} {x:Operand} {d:Nat} (hl:σ' d=σ d) {out:L} (hs:lift T σ t x d=some out):lift T σ' t x d=some out:=by
 have hlog:logAt σ' d=logAt σ d:=by simp only [logAt,hl]
 cases x with
 | tmp q =>
  simp only [lift] at hs ⊢
  cases hq:σ q with
  | none=>rw [hq] at hs;cases hs
  | some Q =>
   rw [hq] at hs;rw [h q Q hq]
   rw [hlog]
   split at hs
   ·rename_i k c n lq hQ
    cases hQ
    cases hk:σ k with
    | none=>rw [hk] at hs;cases hs
    | some K=>rw [hk] at hs;rw [h k K hk];exact hs
   ·cases hs
 | _=>cases hs
section
variable {P:Program} {S:List Nat} {ops:Array Oper} {i:Nat} {o:Oper} {σ:St} {T:Tab}
theorem ops_lift (hT:TabOk P T) (hi:ops[i]?=some o) (hw:Want ops σ o.guard true) {d:Nat} {t:TypeId} {x:Operand} (hd:o.dst=some d) (ho:o.op=.load t x) {out:L} (he:lift T σ t x d=some out):OpS P S ops i σ out :=
 ops_on hi hw fun σ' hs hl=>snd_lift hT hd ho (sub_lift hs (hl d hd) he)
end
def hd1:Op->Option Operand
 | .call ⟨_,⟨x::_⟩,_⟩=>some x
 | _=>none
end Go.Proofs.AI
namespace Go.Proofs.AI
open Go.RowKit
set_option linter.unusedVariables false
set_option linter.unusedSimpArgs false
mutual
def fcCV:CV->(CV->Prop)->Prop
 | .any,k=>k .any
 | .b x,k=>k (.b x)
 | .n i x,k=>k (.n i x)
 | .s x,k=>k (.s x)
 | .vl v,k=>k (.vl v)
 | .ln n,k=>k (.ln n)
 | .sh e r,k=>k (.sh e r)
 | .ow e r,k=>k (.ow e r)
 | .rp r,k=>fcCVs r fun r=>k (.rp r)
 | .fn f r,k=>fcCVs r fun r=>k (.fn f r)
def fcCVs:List CV->(List CV->Prop)->Prop
 | [],k=>k []
 | x::r,k=>fcCV x fun x=>fcCVs r fun r=>k (x::r)
end
mutual
theorem fcCV_eq:∀ (x:CV) (k:CV->Prop),fcCV x k=k x
 | .any,_ | .b _,_ | .n _ _,_ | .s _,_ | .vl _,_ | .ln _,_ | .sh _ _,_ | .ow _ _,_=>by simp only [fcCV]
 | .rp r,k=>by simp only [fcCV,fcCVs_eq r]
 | .fn f r,k=>by simp only [fcCV,fcCVs_eq r]
theorem fcCVs_eq:∀ (l:List CV) (k:List CV->Prop),fcCVs l k=k l
 | [],_=>by simp only [fcCVs]
 | x::r,k=>by simp only [fcCVs,fcCV_eq x,fcCVs_eq r]
end
def fcKs:List (Nat×Nat)->(List (Nat×Nat)->Prop)->Prop
 | [],k=>k []
 | (a,b)::r,k=>fcKs r fun r=>k ((a,b)::r)
theorem fcKs_eq:∀ (l:List (Nat×Nat)) (k:List (Nat×Nat)->Prop),fcKs l k=k l
 | [],k=>rfl
 | (a,b)::r,k=>by simp [fcKs,fcKs_eq r]
def fcSC:SC->(SC->Prop)->Prop
 | .c x,k=>fcCV x fun x=>k (.c x)
 | .v e a o p n r,k=>k (.v e a o p n r)
 | .pr a o n,k=>k (.pr a o n)
 | .p e a o p n i j,k=>k (.p e a o p n i j)
 | .q row o,k=>fcCVs row fun row=>k (.q row o)
 | .fn f ks,k=>fcKs ks fun ks=>k (.fn f ks)
theorem fcSC_eq (x:SC) (k:SC->Prop):fcSC x k=k x:=by cases x<;>simp [fcSC,fcCV_eq,fcCVs_eq,fcKs_eq]
def fcSCs:List SC->(List SC->Prop)->Prop
 | [],k=>k []
 | x::r,k=>fcSC x fun x=>fcSCs r fun r=>k (x::r)
theorem fcSCs_eq:∀ (l:List SC) (k:List SC->Prop),fcSCs l k=k l
 | [],k=>rfl
 | x::r,k=>by simp [fcSCs,fcSC_eq,fcSCs_eq r]
def fcLog:Log->(Log->Prop)->Prop
 | [],k=>k []
 | x::r,k=>fcLog r fun r=>k (x::r)
theorem fcLog_eq:∀ (l:Log) (k:Log->Prop),fcLog l k=k l
 | [],k=>rfl
 | x::r,k=>by simp [fcLog,fcLog_eq r]
def fcSh:Sh->(Sh->Prop)->Prop
 | .one,k=>k .one
 | .agg,k=>k .agg
 | .box,k=>k .box
 | .tup l,k=>k (.tup l)
theorem fcSh_eq (x:Sh) (k:Sh->Prop):fcSh x k=k x:=by cases x<;>rfl
def fcKy:Ky->(Ky->Prop)->Prop
 | ⟨sh,cells,log⟩,k=>fcSh sh fun sh=>fcSCs cells fun cells=>fcLog log fun log=>k ⟨sh,cells,log⟩
theorem fcKy_eq (x:Ky) (k:Ky->Prop):fcKy x k=k x:=by cases x;simp [fcKy,fcSh_eq,fcSCs_eq,fcLog_eq]
def fcL:L->(L->Prop)->Prop
 | [],k=>k []
 | (d,K)::r,k=>fcKy K fun K=>fcL r fun r=>k ((d,K)::r)
theorem fcL_eq:∀ (l:L) (k:L->Prop),fcL l k=k l
 | [],k=>rfl
 | (d,K)::r,k=>by simp [fcL,fcKy_eq,fcL_eq r]
def pushL:L->L->(L->Prop)->Prop
 | [],s,k=>k s
 | (d,K)::r,s,k=>fcKy K fun K=>pushL r ((d,K)::s) k
theorem pushL_eq:∀ (l s:L) (k:L->Prop),pushL l s k=k (l.reverse++s)
 | [],s,k=>rfl
 | (d,K)::r,s,k=>by simp [pushL,fcKy_eq,pushL_eq r]
def fcNs:List Nat->(List Nat->Prop)->Prop
 | [],k=>k []
 | x::r,k=>fcNs r fun r=>k (x::r)
theorem fcNs_eq:∀ (l:List Nat) (k:List Nat->Prop),fcNs l k=k l
 | [],k=>rfl
 | x::r,k=>by simp [fcNs,fcNs_eq r]
def fcKN:KN->(KN->Prop)->Prop
 | [],k=>k []
 | (t,true)::r,k=>fcKN r fun r=>k ((t,true)::r)
 | (t,false)::r,k=>fcKN r fun r=>k ((t,false)::r)
theorem fcKN_eq:∀ (l:KN) (k:KN->Prop),fcKN l k=k l
 | [],k=>rfl
 | (t,true)::r,k=>by simp [fcKN,fcKN_eq r]
 | (t,false)::r,k=>by simp [fcKN,fcKN_eq r]
def fcRW:List RW->(List RW->Prop)->Prop
 | [],k=>k []
 | ⟨a,b⟩::r,k=>fcNs a fun a=>fcNs b fun b=>fcRW r fun r=>k (⟨a,b⟩::r)
theorem fcRW_eq:∀ (l:List RW) (k:List RW->Prop),fcRW l k=k l
 | [],k=>rfl
 | ⟨a,b⟩::r,k=>by simp [fcRW,fcNs_eq,fcRW_eq r]
def scal:SC->Bool
 | .c (.sh _ _)=>false
 | .c (.ow _ _)=>false
 | .c (.rp _)=>false
 | .c (.fn _ _)=>false
 | .c _=>true
 | _=>false
def scalK (l:L) (j:Nat):Bool:=match mk l j with
 | some K=>K.cells.all scal
 | none=>true
def lentK (m:Nat) (l:L) (r:List Inn) (Q:Prop):Prop:=match lentL r with
 | []=>Q
 | _::_=>match scalK l m&&(bxsL 0 r).all (fun p=>scalK l p.1) with
  | true=>Q
  | false=>(shOf l m/\boxSh l (bxsL 0 r))/\Q
def cellsObK (σ:St):List SC->Prop->Prop
 | [],Q=>Q
 | .v e k o (q::p) n r::xs,Q=>lendOb σ (.v e k o (q::p) n r)/\cellsObK σ xs Q
 | .fn f ks::xs,Q=>lendOb σ (.fn f ks)/\cellsObK σ xs Q
 | .p e k o p n i j::xs,Q=>lendOb σ (.p e k o p n i j)/\cellsObK σ xs Q
 | _::xs,Q=>cellsObK σ xs Q
def argsObK (σ:St):List Operand->Prop->Prop
 | [],Q=>Q
 | .tmp t::xs,Q=>match σ t with
  | some K=>cellsObK σ K.cells (argsObK σ xs Q)
  | none=>False
 | _::xs,Q=>argsObK σ xs Q
theorem cellsObK_ok {σ:St}:∀ {l:List SC} {Q:Prop},cellsObK σ l Q->(∀ y∈l,lendOb σ y)/\Q
 | [],Q,h=>⟨fun y hy=>by simp at hy,h⟩
 | x::xs,Q,h=>by
  unfold cellsObK at h
  split at h
  ·rename_i heq;cases heq
  ·rename_i heq
   injection heq with e1 e2;subst e1 e2
   obtain ⟨h1,h2⟩:=cellsObK_ok h.2
   exact ⟨fun y hy=>by rcases List.mem_cons.1 hy with rfl | hy;exact h.1;exact h1 y hy,h2⟩
  ·rename_i heq
   injection heq with e1 e2;subst e1 e2
   obtain ⟨h1,h2⟩:=cellsObK_ok h.2
   exact ⟨fun y hy=>by rcases List.mem_cons.1 hy with rfl | hy;exact h.1;exact h1 y hy,h2⟩
  ·rename_i heq
   injection heq with e1 e2;subst e1 e2
   obtain ⟨h1,h2⟩:=cellsObK_ok h.2
   exact ⟨fun y hy=>by rcases List.mem_cons.1 hy with rfl | hy;exact h.1;exact h1 y hy,h2⟩
  ·rename_i x' xs' hne hne2 hne3 heq
   injection heq with e1 e2;subst e1 e2
   obtain ⟨h1,h2⟩:=cellsObK_ok h
   refine ⟨fun y hy=>?_,h2⟩
   rcases List.mem_cons.1 hy with rfl | hy
   ·refine lendObN_no ?_
    cases y with
    | v e k o p n r=>cases p with
     | nil=>rfl
     | cons q p=>exact absurd rfl (hne e k o q p n r)
    | fn f ks=>exact absurd rfl (hne2 f ks)
    | p e k o p n i j=>exact absurd rfl (hne3 e k o p n i j)
    | _=>rfl
   ·exact h1 y hy
theorem argsObK_ok {σ:St}:∀ {xs:List Operand} {Q:Prop},argsObK σ xs Q->argsOb σ xs/\Q
 | [],Q,h=>⟨fun t ht=>by simp at ht,h⟩
 | .tmp t::xs,Q,h=>by
  simp only [argsObK] at h
  split at h
  ·rename_i K hK
   obtain ⟨h1,h2⟩:=cellsObK_ok h
   obtain ⟨h3,h4⟩:=argsObK_ok h2
   refine ⟨fun t' ht=>?_,h4⟩
   rcases List.mem_cons.1 ht with e | ht
   ·cases e;exact ⟨K,hK,h1⟩
   ·exact h3 t' ht
  ·exact h.elim
 | .const v::xs,Q,h=>by
  simp only [argsObK] at h
  obtain ⟨h3,h4⟩:=argsObK_ok h
  exact ⟨fun t' ht=>h3 t' (by simpa using ht),h4⟩
 | .global g::xs,Q,h=>by
  simp only [argsObK] at h
  obtain ⟨h3,h4⟩:=argsObK_ok h
  exact ⟨fun t' ht=>h3 t' (by simpa using ht),h4⟩
 | .func f::xs,Q,h=>by
  simp only [argsObK] at h
  obtain ⟨h3,h4⟩:=argsObK_ok h
  exact ⟨fun t' ht=>h3 t' (by simpa using ht),h4⟩
def callK {P:Program} (σ:St) (d:Nat) (args:List Operand) (caps:List CV) (c:Con P) (K:L->Prop):Prop :=
 match passG σ (args.zip c.mds) with
 | some (gs,out)=>match argsIn (ups σ out) (args.zip c.mds) gs with
  | some r0=>if c.mds.length=args.length/\c.m=args.length+caps.length/\(bxsL 0 (r0++capsL caps)).map (·.1)=c.bx then
    argsObK (ups σ out) args (∃ b,sameL (insL 0 (r0++capsL caps)) (c.ins b)/\preK c.pre b (altK c.alt c.out b fun l=>lentK c.m l (r0++capsL caps) (match callCk d c.m l (r0++capsL caps) with
     | true=>K (callOuts σ d c.m out l (r0++capsL caps))
     | false=>False)))
    else False
  | none=>False
 | none=>False
def actK (T:Tab) (σ:St) (o:Oper) (K:L->Prop):Prop :=
 match act1 T σ o with
 | some (ob,outs)=>match freeOf σ o.op with
  | true=>K outs
  | false=>ob/\K outs
 | none=>False
def execK {P:Program} (T:Tab) (CT:FuncId->Option (Con P)) (σ:St) (o:Oper) (K:L->Prop):Prop :=
 match o.op with
 | .call ⟨.value cl,args,_⟩=>match one1 σ cl with
  | some s=>match calleeOf s with
   | some (f,caps)=>match CT f,o.dst with
    | some c,some d=>if c.f=f then callK σ d args.toList caps c K else False
    | _,_=>False
   | none=>False
  | none=>False
 | .convert s t x=>match vConvS T σ s t x with
  | some c=>match o.dst with
   | some d=>K [(d,⟨.one,[.c c],logAt σ d⟩)]
   | none=>False
  | none=>actK T σ o K
 | _=>actK T σ o K
def execT {P:Program} (T:Tab) (CT:FuncId->Option (Con P)) (tk:Bool) (σ:St) (o:Oper) (K:L->Prop):Prop :=
 match tk with
 | false=>execK T CT σ o K
 | true=>match o.op with
  | .move x=>match o.dst with
   | some d=>match steal σ x with
    | some e=>K (e.out++[(d,⟨if e.agg then .agg else .one,e.cells,logAt (ups σ e.out) d⟩)])
    | none=>False
   | none=>False
  | .load t x=>match o.dst with
   | some d=>match sip T σ t x with
    | some e=>K (e.out++[(d,⟨if e.agg then .agg else .one,e.cells,logAt (ups σ e.out) d⟩)])
    | none=>match lift T σ t x d with
     | some outs=>K outs
     | none=>False
   | none=>False
  | .call ⟨.builtin .len,⟨[x]⟩,⟨[t]⟩⟩=>match o.dst with
   | some d=>match lenF T σ t x with
    | some (ob,z)=>ob/\K [(d,⟨.one,[.c z],logAt σ d⟩)]
    | none=>False
   | none=>False
  | .store t p x=>match o.dst with
   | none=>match vStoreT T σ t p x with
    | some (ob,out)=>ob/\K out
    | none=>False
   | some _=>False
  | op=>match hd1 op with
   | some x=>match holdF σ x with
    | some (ob,o1)=>ob/\execK T CT (ups σ o1) o fun outs=>K (o1++outs)
    | none=>False
   | none=>False
def pinOf (S:List Nat) (o:Oper):Option (Nat×Nat):=match o.op with
 | .move (.tmp t)=>match S.contains t with
  | true=>match o.dst with
   | some d=>some (d,t)
   | none=>none
  | false=>none
 | _=>none
def execP {P:Program} (T:Tab) (CT:FuncId->Option (Con P)) (S:List Nat) (tk:Bool) (σ:St) (o:Oper) (K:L->Prop):Prop :=
 match pinOf S o with
 | some (d,t)=>K [(d,⟨.one,[.pr t 0 0],logAt σ d⟩)]
 | none=>execT T CT tk σ o K
def bxsK (S:List Nat) (s:L):Bool:=S.all fun t=>match mk s t with
 | some ⟨.box,_,lg⟩=>!gone lg 0
 | _=>false
def tkAt (fz:List (Nat×List Nat)) (k:Nat):Bool:=match fz with
 | []=>false
 | (j,_)::r=>if j=1000000+k then true else tkAt r k
def setB (s:L) (t:Nat) (b:Bool) (lg:Log):L:=(t,⟨.one,[.c (.b b)],lg⟩)::s
def guardK (all:List Oper) (s:L) (kn:KN) (g:Option (Nat×Bool)) (E O:L->KN->Prop):Prop :=
 match g with
 | none=>E s kn
 | some (g,b)=>match all[g]? with
  | some og=>match og.dst with
   | some t=>match kget kn t with
    | some _=>match mk s t with
     | some ⟨.one,[.c (.b true)],_⟩=>match b with
      | true=>E s kn
      | false=>O s kn
     | some ⟨.one,[.c (.b false)],_⟩=>match b with
      | true=>O s kn
      | false=>E s kn
     | _=>False
    | none=>match mk s t with
     | some ⟨.one,[.c (.b v)],lg⟩=>match b with
      | true=>(v=true->E (setB s t true lg) ((t,true)::kn))/\(v=false->O (setB s t false lg) ((t,false)::kn))
      | false=>(v=false->E (setB s t false lg) ((t,false)::kn))/\(v=true->O (setB s t true lg) ((t,true)::kn))
     | some ⟨.tup [],_,_⟩=>O s kn
     | _=>False
   | none=>False
  | none=>False
def gslot (all:List Oper):Option (Nat×Bool)->List Nat
 | none=>[]
 | some (g,_)=>match all[g]? with
  | some og=>match og.dst with
   | some t=>[t]
   | none=>[]
  | none=>[]
def fzOk (all:List Oper) (o:Oper) (ts:List Nat):Bool:=nodupB ts&&(gslot all o.guard).all fun t=>!ts.contains t
def fzT (z o:Nat):Tl:=match z.testBit o with
 | true=>.fy
 | false=>.fz
def fzTs (z:Nat):Nat->List SC->List Tl
 | _,[]=>[]
 | o,_::r=>fzT z o::fzTs z (o+1) r
def fzK (z:Nat) (K:Ky):Ky:=retold K (fzTs z 0 K.cells)
def fzL (z:Nat) (s:L):List Nat->L
 | []=>[]
 | t::r=>match mk s t with
  | some K=>(t,fzK z K)::fzL z s r
  | none=>fzL z s r
def fyAt (fz:List (Nat×List Nat)) (k:Nat):Nat:=match fz with
 | []=>0
 | (j,l)::r=>if j=2000000+k then (match l with
  | []=>0
  | m::_=>m) else fyAt r k
def fzAt (fz:List (Nat×List Nat)) (k:Nat):List Nat:=match fz with
 | []=>[]
 | (j,l)::r=>if j=k then l else fzAt r k
def evOps {P:Program} (T:Tab) (CT:FuncId->Option (Con P)) (fz:List (Nat×List Nat)) (all:List Oper):List Oper->Nat->L->KN->(L->KN->Prop)->Prop
 | [],_,s,kn,K=>K s kn
 | o::r,k,s,kn,K=>guardK all s kn o.guard
   (fun s kn=>match fzAt fz k with
    | []=>execT T CT (tkAt fz k) (mk s) o fun outs=>pushL outs s fun s=>fcKN (kput kn o) fun kn=>evOps T CT fz all r (k+1) s kn K
    | _::_=>match fzOk all o (fzAt fz k) with
     | true=>pushL (fzL (fyAt fz k) s (fzAt fz k)) s fun s=>execT T CT (tkAt fz k) (mk s) o fun outs=>pushL outs s fun s=>fcKN (kput kn o) fun kn=>evOps T CT fz all r (k+1) s kn K
     | false=>False)
   (fun s kn=>pushL (offAt (mk s) o.dst) s fun s=>fcKN (koff kn o) fun kn=>evOps T CT fz all r (k+1) s kn K)
def opsOf:Op->List Operand
 | .move x=>[x] | .assign x=>[x] | .box _ x=>[x] | .load _ x=>[x] | .nilCheck x=>[x] | .unOp _ _ x=>[x] | .convert _ _ x=>[x]
 | .fieldAddr _ x _=>[x] | .field _ x _=>[x] | .extract x _=>[x]
 | .pick c a b=>[c,a,b]
 | .build _ ps=>ps.toList.map (·.2)
 | .buildSlice _ _ ps=>ps.toList.map (·.2)
 | .store _ a v=>[a,v] | .binOp _ _ a v _=>[a,v] | .makeSlice _ a v=>[a,v] | .indexAddr _ a v=>[a,v] | .index _ a v=>[a,v]
 | .makeFunc _ a b=>a.toList++b.toList
 | .slice _ x l h m=>x::(l.toList++h.toList++m.toList)
 | .call ⟨.value f,args,_⟩=>f::args.toList
 | .call ⟨_,args,_⟩=>args.toList
 | _=>[]
def keysAt (s:L) (t:Nat):List Nat:=match mk s t with
 | some K=>K.cells.flatMap keysOf
 | none=>[]
def isV:SC->Bool
 | .v _ _ _ _ _ _=>true
 | _=>false
def noV (s:L) (t:Nat):Bool:=match mk s t with
 | some K=>K.cells.all fun x=>!isV x
 | none=>true
def scalAt (s:L) (t ix:Nat):Bool:=match mk s t with
 | some K=>match K.sh with
  | .tup sig=>match partAt sig ix 0 with
   | some (false,off,_)=>match K.cells[off]? with
    | some x=>scal x
    | none=>false
   | _=>false
  | _=>false
 | none=>false
def ptrAt (s:L) (t:Nat):Option Nat:=match mk s t with
 | some K=>match K.sh,K.cells with
  | .box,x::_=>match x with
   | .c _=>none
   | _=>some t
  | .one,[.pr k o _]=>match mk s k with
   | some K2=>match K2.cells[o]? with
    | some (.c _)=>none
    | some _=>some k
    | none=>none
   | none=>none
  | _,_=>none
 | none=>none
def reads (S:List Nat) (all:List Oper) (s:L) (o:Oper):List Nat :=
 let r0:=(match pinOf S o with
  | some _=>[]
  | none=>(opsOf o.op).flatMap tmps)++gslot all o.guard
 let r2:=match o.op with
  | .nilCheck _=>r0
  | .fieldAddr _ _ _=>r0
  | .load _ (.tmp t)=>match ptrAt s t with
   | some k=>r0++[k]
   | none =>
    let r1:=r0++r0.flatMap (keysAt s)
    r1++r1.flatMap (keysAt s)
  | .extract (.tmp t) ix=>match scalAt s t ix with
   | true=>r0
   | false =>
    let r1:=r0++r0.flatMap (keysAt s)
    r1++r1.flatMap (keysAt s)
  | .move (.tmp t)=>match noV s t with
   | true=>r0
   | false =>
    let r1:=r0++r0.flatMap (keysAt s)
    r1++r1.flatMap (keysAt s)
  | _ =>
   let r1:=r0++r0.flatMap (keysAt s)
   r1++r1.flatMap (keysAt s)
 match o.dst with
 | some d=>d::r2
 | none=>r2
def dstL:Option Nat->List Nat
 | some d=>[d]
 | none=>[]
def evAny {P:Program} (T:Tab) (CT:FuncId->Option (Con P)) (n:Nat) (pn:List Nat) (fz:List (Nat×List Nat)) (all:List Oper):List Oper->L->KN->List RW->(L->KN->Prop)->Prop
 | [],s,kn,acc,K=>fcRW acc fun acc=>match okMask n pn all acc with
  | true=>K s kn
  | false=>False
 | o::r,s,kn,acc,K=>guardK all s kn o.guard
   (fun s kn=>fcNs (reads pn all s o) fun R=>match fzAt fz acc.length with
    | []=>execP T CT pn (tkAt fz acc.length) (loc R (mk s)) o fun outs=>fcL outs fun outs=>match outs.all (fun p=>R.contains p.1)&&okBx pn outs with
     | true=>pushL outs s fun s=>fcKN (kput kn o) fun kn=>evAny T CT n pn fz all r s kn (acc++[⟨R,dstL o.dst++outs.map (·.1)⟩]) K
     | false=>False
    | _::_=>match fzOk all o (fzAt fz acc.length)&&(fzAt fz acc.length).all fun t=>R.contains t with
     | true=>fcL (fzL (fyAt fz acc.length) s (fzAt fz acc.length)) fun z=>execT T CT (tkAt fz acc.length) (ups (loc R (mk s)) z) o fun outs=>fcL outs fun outs=>match outs.all (fun p=>R.contains p.1)&&okBx pn (z++outs) with
      | true=>pushL z s fun s=>pushL outs s fun s=>fcKN (kput kn o) fun kn=>evAny T CT n pn fz all r s kn (acc++[⟨R,dstL o.dst++(z++outs).map (·.1)⟩]) K
      | false=>False
     | false=>False)
   (fun s kn=>fcNs (reads pn all s o) fun R=>match okBx pn (offAt (mk s) o.dst) with
    | true=>pushL (offAt (mk s) o.dst) s fun s=>fcKN (koff kn o) fun kn=>evAny T CT n pn fz all r s kn (acc++[⟨R,dstL o.dst⟩]) K
    | false=>False)
def findA {α:Type _} (k:Nat):List (Nat×α)->Option α
 | []=>none
 | (j,v)::r=>if j=k then some v else findA k r
def fzOf (k:Nat):List (Nat×List (Nat×List Nat))->List (Nat×List Nat)
 | []=>[]
 | (j,v)::r=>if j=k then v else fzOf k r
structure Env (P:Program) where
 T:Tab
 CT:FuncId->Option (Con P)
 n:Nat
 pn:List Nat
 V:List (Nat×List Nat)
 LH:List (Nat×Fam)
 FZ:List (Nat×List (Nat×List Nat)):=[]
 CUT:List (Nat×Fam):=[]
 RC:List (Nat×List (Con P)):=[]
def ctOf {P:Program}:List (Con P)->FuncId->Option (Con P)
 | [],_=>none
 | c::r,f=>if c.f=f then some c else ctOf r f
def ctIn {P:Program} (E:Env P) (id:Nat):FuncId->Option (Con P):=match findA id E.RC with
 | some l=>fun f=>match ctOf l f with
  | some c=>some c
  | none=>E.CT f
 | none=>E.CT
def firstR:Code->Option Nat
 | .region id _ _=>some id
 | .cond _ a b=>match firstR a with
  | some k=>some k
  | none=>firstR b
 | .seq a _=>firstR a
 | .block _ b=>firstR b
 | .scope b=>firstR b
 | _=>none
def keyC:Code->Option Nat
 | .region id _ _=>some id
 | .cond _ a b=>match firstR (.cond (.const (.bool true)) a b) with
  | some k=>some (10000+k)
  | none=>none
 | .block _ b=>match firstR b with
  | some k=>some (20000+k)
  | none=>none
 | .seq a b=>match firstR (.seq a b) with
  | some k=>some (30000+k)
  | none=>none
 | _=>none
def findO {α:Type _}:Option Nat->List (Nat×α)->Option α
 | none,_=>none
 | some k,l=>findA k l
def ev {P:Program} (E:Env P):Code->Nat->L->KN->(Exit->L->KN->Prop)->Prop
 | .skip,_,s,kn,K=>K .normal s kn
 | .region id ops d,_,s,kn,K=>match findA id E.V with
  | some V=>match d with
   | false=>match okDst E.n E.pn ops.toList with
    | true=>evOps E.T (ctIn E id) (fzOf id E.FZ) ops.toList ops.toList 0 s kn fun s kn=>fcL (canonL V s) fun s=>K .normal s kn
    | false=>False
   | true=>match bxsK E.pn s with
    | true=>evAny E.T (ctIn E id) E.n E.pn (fzOf id E.FZ) ops.toList ops.toList s kn [] fun s kn=>fcL (canonL V s) fun s=>K .normal s kn
    | false=>False
  | none=>False
 | .seq a b,i,s,kn,K=>match findO (keyC a) E.CUT with
  | none=>ev E a i s kn fun e s kn=>match e with
   | .normal=>ev E b i s kn K
   | e=>K e s kn
  | some F=>∃ (post:F.α->Prop),(ev E a i s kn fun e s kn=>match e with
   | .normal=>∃ x,sameL s (F.st x)/\post x
   | e=>K e s kn)/\∀ x,post x->ev E b i (F.st x) [] K
 | .cond c a b,i,s,kn,K=>match kofO kn c with
  | some _=>match oneC (mk s) c with
   | some (.b true)=>ev E a i s kn K
   | some (.b false)=>ev E b i s kn K
   | _=>False
  | none=>match c with
   | .tmp d=>match mk s d with
    | some ⟨.one,[.c (.b t)],lg⟩=>(t=true->ev E a i (setB s d true lg) ((d,true)::kn) K)/\(t=false->ev E b i (setB s d false lg) ((d,false)::kn) K)
    | _=>False
   | _=>False
 | .block id b,_,s,kn,K=>ev E b id s kn fun e s kn=>match e with
  | .exit j=>if j=id then K .normal s kn else K (.exit j) s kn
  | e=>K e s kn
 | .exit id,_,s,kn,K=>K (.exit id) s kn
 | .ret,_,s,kn,K=>K .ret s kn
 | .loop b,i,s,kn,K=>match findA i E.LH with
  | some F=>∃ (pre:F.α->Prop) (μ:F.α->Nat) (x0:F.α),sameL s (F.st x0)/\pre x0/\∀ x,pre x->ev E b i (F.st x) [] fun e s kn=>match e with
   | .normal=>∃ y,sameL s (F.st y)/\pre y/\μ y<μ x
   | e=>K e s kn
  | none=>False
 | _,_,_,_,_=>False
end Go.Proofs.AI
namespace Go.Proofs.AI
open Go.RowKit
set_option linter.unusedVariables false
set_option linter.unusedSimpArgs false
theorem scal_noSh {x:SC} (h:scal x=true):noShC x:=by
 cases x with
 | c x=>cases x<;>simp [scal,noShC,noSh] at *
 | _=>simp [scal] at h
theorem scal_noShL:∀ {xs:List SC},xs.all scal=true->noShL xs
 | [],_=>trivial
 | x::xs,h=>by
  simp only [List.all_cons,Bool.and_eq_true] at h
  exact ⟨scal_noSh h.1,scal_noShL h.2⟩
theorem scalK_shOf {l:L} {j:Nat} (h:scalK l j=true):shOf l j:=by
 unfold scalK at h
 unfold shOf
 cases hK:mk l j with
 | none=>trivial
 | some K=>rw [hK] at h;exact scal_noShL h
theorem scal_boxSh {l:L}:∀ {bs:List (Nat×Nat)},bs.all (fun p=>scalK l p.1)=true->boxSh l bs
 | [],_=>trivial
 | (j,k)::r,h=>by
  simp only [List.all_cons,Bool.and_eq_true] at h
  exact ⟨scalK_shOf h.1,scal_boxSh h.2⟩
theorem lentK_ok {m:Nat} {l:L} {r:List Inn} {Q:Prop} (h:lentK m l r Q):callSh m l r/\Q:=by
 unfold lentK at h
 unfold callSh
 cases hl:lentL r with
 | nil=>rw [hl] at h;exact ⟨trivial,h⟩
 | cons x y =>
  rw [hl] at h
  simp only at h ⊢
  split at h
  ·rename_i hb
   simp only [Bool.and_eq_true] at hb
   exact ⟨⟨scalK_shOf hb.1,scal_boxSh hb.2⟩,h⟩
  ·exact h
section
variable {P:Program} {S:List Nat} {T:Tab} {CT:FuncId->Option (Con P)} {ops:Array Oper} {i:Nat} {o:Oper} {σ:St}
theorem actK_ok (hT:TabOk P T) (hi:ops[i]?=some o) (hw:Want ops σ o.guard true) {K:L->Prop} (h:actK T σ o K):∃ outs,OpS P S ops i σ outs/\K outs:=by
 unfold actK at h
 split at h
 ·rename_i ob outs ha
  split at h
  ·rename_i hf
   exact ⟨outs,act1_ok hT hi hw ha (act1_free ha hf),h⟩
  ·exact ⟨outs,act1_ok hT hi hw ha h.1,h.2⟩
 ·exact h.elim
theorem execK_ok (hT:TabOk P T) (hi:ops[i]?=some o) (hw:Want ops σ o.guard true) {K:L->Prop} (h:execK T CT σ o K):∃ outs,OpS P S ops i σ outs/\K outs:=by
 unfold execK at h
 split at h
 ·rename_i cl args ats ho
  split at h
  ·rename_i s hcl
   split at h
   ·rename_i f caps hce
    split at h
    ·rename_i c d hc hd
     split at h
     ·rename_i hcf
      unfold callK at h
      split at h
      ·rename_i gs out hg
       split at h
       ·rename_i r hr
        split at h
        ·rename_i hs
         obtain ⟨hob,b,h1,h2⟩:=argsObK_ok h
         obtain ⟨h2,h3⟩:=preK_ok h2
         obtain ⟨h3,h4⟩:=lentK_ok (altK_ok h3)
         split at h4
         ·rename_i hck
          have hm:args.size+caps.length=c.m:=by rw [hs.2.1];simp
          refine ⟨_,?_,h4⟩
          rw [<- hm] at hck h3 ⊢
          refine ops_call hi hw hd ho hcl hce c.mds (by rw [hs.1];simp) hg hr hob hck h3 ?_
          rw [hm,hs.2.2,<- hcf]
          exact (c.ok b h2).same h1
         ·exact h4.elim
        ·exact h.elim
       ·exact h.elim
      ·exact h.elim
     ·exact h.elim
    ·exact h.elim
   ·exact h.elim
  ·exact h.elim
 ·rename_i s t x ho
  split at h
  ·rename_i c hc
   split at h
   ·rename_i d hd
    exact ⟨_,ops_conv hT hi hw hd ho hc,h⟩
   ·exact h.elim
  ·exact actK_ok hT hi hw h
 ·exact actK_ok hT hi hw h
theorem mk_setB {s:L} {t:Nat} {b:Bool} {lg:Log} (h:mk s t=some ⟨.one,[.c (.b b)],lg⟩):mk (setB s t b lg)=mk s:=by
 funext k
 simp only [setB,mk,up]
 split
 ·rename_i e;subst e;exact h.symm
 ·rfl
theorem execT_ok (hT:TabOk P T) (hi:ops[i]?=some o) (hw:Want ops σ o.guard true) {tk:Bool} {K:L->Prop} (h:execT T CT tk σ o K):∃ outs,OpS P S ops i σ outs/\K outs:=by
 unfold execT at h
 split at h
 ·exact execK_ok hT hi hw h
 ·split at h
  ·rename_i x ho
   split at h
   ·rename_i d hd
    split at h
    ·rename_i e he
     exact ⟨_,ops_take hi hw hd ho he,h⟩
    ·exact h.elim
   ·exact h.elim
  ·rename_i t x ho
   split at h
   ·rename_i d hd
    split at h
    ·rename_i e he
     exact ⟨_,ops_sip hT hi hw hd ho he,h⟩
    ·split at h
     ·rename_i outs he
      exact ⟨_,ops_lift hT hi hw hd ho he,h⟩
     ·exact h.elim
   ·exact h.elim
  ·rename_i x t ho
   split at h
   ·rename_i d hd
    split at h
    ·rename_i ob z hz
     exact ⟨_,ops_rd_one hT hi hw hd (by rw [ho];exact lenF_ok hz h.1) trivial,h.2⟩
    ·exact h.elim
   ·exact h.elim
  ·rename_i t p x ho
   split at h
   ·rename_i hd
    split at h
    ·rename_i ob out he
     exact ⟨_,ops_storeT hT hi hw hd ho he h.1,h.2⟩
    ·exact h.elim
   ·exact h.elim
  ·split at h
   ·rename_i x hx
    split at h
    ·rename_i ob o1 hh
     obtain ⟨outs,h1,h2⟩:=execK_ok hT hi (hw.hold hh h.1) h.2
     exact ⟨_,ops_hold hh h.1 h1,h2⟩
    ·exact h.elim
   ·exact h.elim
theorem guardK_ok {all:List Oper} {s:L} {kn:KN} {g:Option (Nat×Bool)} {E O:L->KN->Prop} (h:guardK all s kn g E O) :
  ∃ s1 kn1,mk s1=mk s/\((Want all.toArray (mk s) g true/\E s1 kn1)∨(Want all.toArray (mk s) g false/\O s1 kn1)):=by
 unfold guardK at h
 split at h
 ·exact ⟨s,kn,rfl,.inl ⟨.free,h⟩⟩
 ·rename_i g b
  split at h
  ·rename_i og hog
   have hog':all.toArray[g]?=some og:=by simpa using hog
   split at h
   ·rename_i t ht
    have hone:∀ {v:Bool} {lg:Log},mk s t=some ⟨.one,[.c (.b v)],lg⟩->oneC (mk s) (.tmp t)=some (.b v):=fun {v lg} hv=>by
     simp [oneC,one1,hv,look]
    split at h
    ·split at h
     ·rename_i lg hv
      split at h
      ·exact ⟨s,kn,rfl,.inl ⟨.yes hog' ht (hone hv),h⟩⟩
      ·exact ⟨s,kn,rfl,.inr ⟨.no hog' ht (hone hv) (by simp),h⟩⟩
     ·rename_i lg hv
      split at h
      ·exact ⟨s,kn,rfl,.inr ⟨.no hog' ht (hone hv) (by simp),h⟩⟩
      ·exact ⟨s,kn,rfl,.inl ⟨.yes hog' ht (hone hv),h⟩⟩
     ·exact h.elim
    ·split at h
     ·rename_i v lg hv
      split at h
      ·cases v with
       | true=>exact ⟨_,_,mk_setB hv,.inl ⟨.yes hog' ht (hone hv),h.1 rfl⟩⟩
       | false=>exact ⟨_,_,mk_setB hv,.inr ⟨.no hog' ht (hone hv) (by simp),h.2 rfl⟩⟩
      ·cases v with
       | true=>exact ⟨_,_,mk_setB hv,.inr ⟨.no hog' ht (hone hv) (by simp),h.2 rfl⟩⟩
       | false=>exact ⟨_,_,mk_setB hv,.inl ⟨.yes hog' ht (hone hv),h.1 rfl⟩⟩
     ·rename_i hv
      exact ⟨s,kn,rfl,.inr ⟨.off hog' ht (by rw [hv];rfl),h⟩⟩
     ·exact h.elim
   ·exact h.elim
  ·exact h.elim
theorem fzTs_at (z:Nat):∀ (xs:List SC) (q o:Nat) {x:SC},xs[o]?=some x->(fzTs z q xs).getD o .keep=fzT z (q+o)
 | [],q,o,x,h=>by simp at h
 | y::r,q,0,x,h=>by simp [fzTs]
 | y::r,q,o+1,x,h=>by
  have:=fzTs_at z r (q+1) o (x:=x) (by simpa using h)
  simp only [fzTs,List.getD_cons_succ,this]
  rw [show q+1+o=q+(o+1) by omega]
theorem fzK_ob (z:Nat) (K:Ky):∀ o x,K.cells[o]?=some x->tellOb ((fzTs z 0 K.cells).getD o .keep) x:=by
 intro o x hx
 rw [fzTs_at z _ 0 o hx]
 unfold fzT
 split<;>trivial
theorem bxs_fz {z:Nat} {σ':St} {k:Nat} {K:Ky} (h:Bxs S σ') (hk:σ' k=some K):Bxs S (up σ' k (fzK z K)):=fun t ht=>by
 obtain ⟨cells,lg,h1,h2⟩:=h t ht
 by_cases e:t=k
 ·subst e
  rw [hk] at h1;cases h1
  exact ⟨_,_,by simp [up,fzK,retold];exact ⟨rfl,rfl⟩,by rw [gone_marks (Nat.zero_le _)];exact h2⟩
 ·exact ⟨cells,lg,by simp [up,e,h1],h2⟩
theorem ops_fz1 {z:Nat} {k:Nat} {K:Ky} {outs:L} (hk:σ k=some K) (h:OpS P S ops i (up σ k (fzK z K)) outs):OpS P S ops i σ ((k,fzK z K)::outs):=by
 intro σ' hbx hsub hd cx a w hP hr hn K' Q hK
 refine h (up σ' k (fzK z K)) (bxs_fz hbx (hsub _ _ hk)) (sub_up hsub k _) (fun o d ho hod=>?_) cx a w hP (hr.tell (hsub _ _ hk) _ (fzK_ob z K)) hn K' Q hK
 simp only [up]
 split
 ·rfl
 ·exact hd o d ho hod
theorem ops_fzg {z:Nat} {s:L} {σ:St}:∀ (ts:List Nat) {outs:L} (pre:L),(∀ t∈ts,σ t=mk s t)->ts.Nodup->(∀ t∈ts,∀ p∈pre,p.1≠t)->OpS P S ops i (ups (ups σ pre) (fzL z s ts)) outs->OpS P S ops i (ups σ pre) (fzL z s ts++outs)
 | [],outs,pre,_,_,_,h=>h
 | t::r,outs,pre,he,hn,hp,h=>by
  have hr:=(List.nodup_cons.1 hn)
  simp only [fzL] at h ⊢
  cases hK:mk s t with
  | none =>
   simp only [hK] at h ⊢
   exact ops_fzg r pre (fun q hq=>he q (by simp [hq])) hr.2 (fun q hq=>hp q (by simp [hq])) h
  | some K =>
   simp only [hK,ups] at h ⊢
   have hk:ups σ pre t=some K:=by
    rw [ups_eq pre _ _ (fun K' hK'=>hp t (by simp) _ hK' rfl),he t (by simp)];exact hK
   refine ops_fz1 hk ?_
   have:=ops_fzg (z:=z) (s:=s) (σ:=σ) r (outs:=outs) (pre++[(t,fzK z K)]) (fun q hq=>he q (by simp [hq])) hr.2 (fun q hq p hp'=>by
    rcases List.mem_append.1 hp' with hp' | hp'
    ·exact hp q (by simp [hq]) p hp'
    ·simp at hp';subst hp';rintro rfl;exact hr.1 hq)
   rw [ups_append] at this
   exact this h
theorem ops_fz {z:Nat} {s:L}:∀ (ts:List Nat) {outs:L} (pre:L),ts.Nodup->(∀ t∈ts,∀ p∈pre,p.1≠t)->OpS P S ops i (ups (ups (mk s) pre) (fzL z s ts)) outs->OpS P S ops i (ups (mk s) pre) (fzL z s ts++outs)
 | [],outs,pre,_,_,h=>h
 | t::r,outs,pre,hn,hp,h=>by
  have hr:=(List.nodup_cons.1 hn)
  simp only [fzL] at h ⊢
  cases hK:mk s t with
  | none =>
   simp only [hK] at h ⊢
   exact ops_fz r pre hr.2 (fun q hq=>hp q (by simp [hq])) h
  | some K =>
   simp only [hK,ups] at h ⊢
   have hk:ups (mk s) pre t=some K:=by
    rw [ups_eq pre _ _ (fun K' hK'=>hp t (by simp) _ hK' rfl)];exact hK
   refine ops_fz1 hk ?_
   have:=ops_fz (z:=z) (s:=s) r (outs:=outs) (pre++[(t,fzK z K)]) hr.2 (fun q hq p hp'=>by
    rcases List.mem_append.1 hp' with hp' | hp'
    ·exact hp q (by simp [hq]) p hp'
    ·simp at hp';subst hp';rintro rfl;exact hr.1 hq)
   rw [ups_append] at this
   exact this h
theorem nodupN_ok:∀ {l:List Nat},nodupB l=true->l.Nodup
 | [],_=>List.nodup_nil
 | x::r,h=>by
  simp only [nodupB,Bool.and_eq_true,Bool.not_eq_true'] at h
  exact List.nodup_cons.2 ⟨fun hx=>by have:=h.1;simp [hx] at this,nodupN_ok h.2⟩
theorem fzL_in {z:Nat} {s:L}:∀ {ts:List Nat} {p:Nat×Ky},p∈fzL z s ts->p.1∈ts
 | [],p,h=>by simp [fzL] at h
 | t::r,p,h=>by
  simp only [fzL] at h
  split at h
  ·rcases List.mem_cons.1 h with rfl | h
   ·simp
   ·simp [fzL_in h]
  ·simp [fzL_in h]
theorem Want.fz {z:Nat} {all:List Oper} {s:L} {ts:List Nat} {b:Bool} (h:Want all.toArray (mk s) o.guard b) (hf:fzOk all o ts=true):Want all.toArray (ups (mk s) (fzL z s ts)) o.guard b:=by
 simp only [fzOk,Bool.and_eq_true,List.all_eq_true,Bool.not_eq_true'] at hf
 have key:∀ {g t:Nat} {og:Oper} {c:Bool},o.guard=some (g,c)->all.toArray[g]?=some og->og.dst=some t->ups (mk s) (fzL z s ts) t=mk s t:=by
  intro g t og c hg ho ht
  have ho':all[g]?=some og:=by simpa using ho
  have hin:t∈gslot all o.guard:=by simp [hg,gslot,ho',ht]
  have hno:∀ K,(t,K) ∉ fzL z s ts:=fun K hK=>by
   have:=hf.2 t hin
   have h2:=fzL_in hK
   simp at this
   exact this h2
  exact ups_eq _ _ _ hno
 generalize hg:o.guard=g at h
 cases h with
 | free=>exact .free
 | yes h1 h2 h3=>exact .yes h1 h2 (by simp only [oneC,one1,key hg h1 h2] at h3 ⊢;exact h3)
 | no h1 h2 h3 hne=>exact .no h1 h2 (by simp only [oneC,one1,key hg h1 h2] at h3 ⊢;exact h3) hne
 | off h1 h2 h3=>exact .off h1 h2 (by rw [key hg h1 h2];exact h3)
theorem evOps_ok (hT:TabOk P T) {fz:List (Nat×List Nat)} {all:List Oper} {K:L->KN->Prop}:∀ (r:List Oper) {k:Nat} {s:L} {kn:KN},(∀ j,r[j]?=none∨all[k+j]?=r[j]?)->evOps T CT fz all r k s kn K ->
  ∃ s' kn',TrP P all.toArray (List.range' k r.length) (mk s) (mk s')/\K s' kn':=by
 intro r
 induction r with
 | nil=>intro k s kn _ h;exact ⟨s,kn,.nil _,h⟩
 | cons o r ih =>
  intro k s kn hall h
  have h0:all.toArray[k]?=some o:=by
   have:=(hall 0).resolve_left (by simp)
   simpa using this
  have hr:∀ j,r[j]?=none∨all[k+1+j]?=r[j]?:=fun j=>by
   have:=hall (j+1)
   rw [List.getElem?_cons_succ] at this
   rw [show k+1+j=k+(j+1) by omega];exact this
  rw [List.length_cons,List.range'_succ]
  simp only [evOps,pushL_eq,fcKN_eq] at h
  obtain ⟨s1,kn1,hm,⟨hw,h⟩ | ⟨hw,h⟩⟩:=guardK_ok h
  ·rw [<- hm] at hw ⊢
   split at h
   ·obtain ⟨outs,h1,h2⟩:=execT_ok hT h0 hw h
    obtain ⟨s',kn',h3,h4⟩:=ih hr h2
    exact ⟨s',kn',.cons outs h1 (by rw [ups_mk];exact h3),h4⟩
   ·rename_i ts hts
    split at h
    ·rename_i hnd
     have hw':Want all.toArray (mk ((fzL (fyAt fz k) s1 (fzAt fz k)).reverse++s1)) o.guard true:=by
      rw [<- ups_mk]
      exact hw.fz hnd
     obtain ⟨outs,h1,h2⟩:=execT_ok hT h0 hw' h
     obtain ⟨s',kn',h3,h4⟩:=ih hr h2
     refine ⟨s',kn',.cons (fzL (fyAt fz k) s1 (fzAt fz k)++outs) ?_ ?_,h4⟩
     ·have:=ops_fz (z:=fyAt fz k) (P:=P) (S:=[]) (ops:=all.toArray) (i:=k) (s:=s1) (fzAt fz k) (outs:=outs) [] (nodupN_ok (by simp only [fzOk,Bool.and_eq_true] at hnd;exact hnd.1)) (by simp)
      exact this (by rw [show ups (mk s1) []=mk s1 from rfl,ups_mk];exact h1)
     ·rw [ups_append,ups_mk,ups_mk];exact h3
    ·exact h.elim
  ·rw [<- hm] at hw ⊢
   obtain ⟨s',kn',h3,h4⟩:=ih hr h
   exact ⟨s',kn',.cons _ (ops_off h0 hw) (by rw [ups_mk];exact h3),h4⟩
theorem oneC_loc {R:List Nat} {t:Nat} (ht:t∈R):oneC (loc R σ) (.tmp t)=oneC σ (.tmp t):=by
 have:loc R σ t=σ t:=loc_in ht
 simp only [oneC,one1,this]
theorem gslot_in {Q:List Nat} {all:List Oper} {s:L}:∀ {g t:Nat} {og:Oper} {b:Bool},o.guard=some (g,b)->all.toArray[g]?=some og->og.dst=some t->t∈reads Q all s o:=by
 intro g t og b hg ho ht
 have ho':all[g]?=some og:=by simpa using ho
 have:t∈gslot all o.guard:=by simp [hg,gslot,ho',ht]
 unfold reads
 simp only
 have:t∈(match pinOf Q o with | some _=>([]:List Nat) | none=>(opsOf o.op).flatMap tmps)++gslot all o.guard:=List.mem_append_right _ this
 generalize (match pinOf Q o with | some _=>([]:List Nat) | none=>(opsOf o.op).flatMap tmps)++gslot all o.guard=r0 at this
 split<;>(first | refine List.mem_cons_of_mem _ ?_ | skip)<;>split<;>(try split)<;>simp [this]
theorem Want.loc {Q:List Nat} {all:List Oper} {s:L} {b:Bool} (h:Want all.toArray (mk s) o.guard b):Want all.toArray (loc (reads Q all s o) (mk s)) o.guard b:=by
 generalize hg:o.guard=g at h
 cases h with
 | free=>exact .free
 | yes h1 h2 h3=>exact .yes h1 h2 (by rw [oneC_loc (gslot_in hg h1 h2)];exact h3)
 | no h1 h2 h3 hne=>exact .no h1 h2 (by rw [oneC_loc (gslot_in hg h1 h2)];exact h3) hne
 | off h1 h2 h3=>exact .off h1 h2 (by rw [loc_in (gslot_in hg h1 h2)];exact h3)
theorem dst_in {Q:List Nat} {all:List Oper} {s:L} {d:Nat} (hd:o.dst=some d):d∈reads Q all s o:=by
 unfold reads;simp only [hd];simp
theorem loc_more {R w:List Nat} (hw:∀ k∈w,k∈R):loc (R++w) σ=loc R σ:=by
 funext k
 unfold AI.loc
 by_cases h:k∈R
 ·simp [h]
 ·have:k ∉ w:=fun hk=>h (hw k hk)
  simp [h,this]
theorem offAt_loc {R:List Nat} {d:Option Nat} (h:∀ t,d=some t->t∈R):offAt (AI.loc R σ) d=offAt σ d:=by
 cases d with
 | none=>rfl
 | some d=>simp only [offAt,logAt,loc_in (h d rfl)]
theorem dstL_in {Q:List Nat} {all:List Oper} {s:L} {q:Nat} (hq:q∈dstL o.dst):q∈reads Q all s o:=by
 cases hd:o.dst with
 | none=>simp [hd,dstL] at hq
 | some d =>
  simp [hd,dstL] at hq
  subst hq
  exact dst_in hd
theorem Want.fz' {z:Nat} {all:List Oper} {s:L} {σ:St} {ts:List Nat} {b:Bool} (h:Want all.toArray σ o.guard b) (hf:fzOk all o ts=true):Want all.toArray (ups σ (fzL z s ts)) o.guard b:=by
 simp only [fzOk,Bool.and_eq_true,List.all_eq_true,Bool.not_eq_true'] at hf
 have key:∀ {g t:Nat} {og:Oper} {c:Bool},o.guard=some (g,c)->all.toArray[g]?=some og->og.dst=some t->ups σ (fzL z s ts) t=σ t:=by
  intro g t og c hg ho ht
  have ho':all[g]?=some og:=by simpa using ho
  have hin:t∈gslot all o.guard:=by simp [hg,gslot,ho',ht]
  have hno:∀ K,(t,K) ∉ fzL z s ts:=fun K hK=>by
   have:=hf.2 t hin
   have h2:=fzL_in hK
   simp at this
   exact this h2
  exact ups_eq _ _ _ hno
 generalize hg:o.guard=g at h
 cases h with
 | free=>exact .free
 | yes h1 h2 h3=>exact .yes h1 h2 (by simp only [oneC,one1,key hg h1 h2] at h3 ⊢;exact h3)
 | no h1 h2 h3 hne=>exact .no h1 h2 (by simp only [oneC,one1,key hg h1 h2] at h3 ⊢;exact h3) hne
 | off h1 h2 h3=>exact .off h1 h2 (by rw [key hg h1 h2];exact h3)
theorem execP_ok (hT:TabOk P T) (hi:ops[i]?=some o) (hw:Want ops σ o.guard true) {tk:Bool} {K:L->Prop} (h:execP T CT S tk σ o K):∃ outs,OpS P S ops i σ outs/\K outs:=by
 unfold execP at h
 split at h
 ·rename_i d t hp
  unfold pinOf at hp
  split at hp
  ·rename_i t' ho
   split at hp
   ·rename_i hc
    split at hp
    ·rename_i d' hd
     injection hp with hp;injection hp with h1 h2;subst h1 h2
     exact ⟨_,ops_pin hi hw hd ho (by simpa using hc),h⟩
    ·cases hp
   ·cases hp
  ·cases hp
 ·exact execT_ok hT hi hw h
theorem bxsK_ok {s:L} (h:bxsK S s=true):Bxs S (mk s):=fun t ht=>by
 have:=List.all_eq_true.1 h t ht
 split at this
 ·rename_i cells lg hK
  exact ⟨cells,lg,hK,by simpa using this⟩
 ·cases this
theorem evAny_ok (hT:TabOk P T) {n:Nat} {pn:List Nat} {fz:List (Nat×List Nat)} {all:List Oper} {K:L->KN->Prop}:∀ (r:List Oper) {k:Nat} {s:L} {kn:KN} {acc:List RW},acc.length=k->(∀ j,r[j]?=none∨all[k+j]?=r[j]?)->evAny T CT n pn fz all r s kn acc K ->
  ∃ s' kn' rws,okMask n pn all (acc++rws)=true/\Tr P pn all.toArray (rwAt (acc++rws)) (List.range' k r.length) (mk s) (mk s')/\K s' kn':=by
 intro r
 induction r with
 | nil =>
  intro k s kn acc _ _ h
  simp only [evAny,pushL_eq,fcKN_eq,fcL_eq,fcNs_eq,fcRW_eq] at h
  split at h
  ·rename_i hok
   exact ⟨s,kn,[],by simpa using hok,.nil _,h⟩
  ·exact h.elim
 | cons o r ih =>
  intro k s kn acc hacc hall h
  have h0:all.toArray[k]?=some o:=by
   have:=(hall 0).resolve_left (by simp)
   simpa using this
  have hr:∀ j,r[j]?=none∨all[k+1+j]?=r[j]?:=fun j=>by
   have:=hall (j+1)
   rw [List.getElem?_cons_succ] at this
   rw [show k+1+j=k+(j+1) by omega];exact this
  rw [List.length_cons,List.range'_succ]
  simp only [evAny,pushL_eq,fcKN_eq,fcL_eq,fcNs_eq,fcRW_eq] at h
  have hat:∀ (rw0:RW) (rws:List RW),rwAt (acc++rw0::rws) k=rw0:=fun rw0 rws=>by
   subst hacc
   simp [rwAt]
  obtain ⟨s1,kn1,hm,⟨hw,h⟩ | ⟨hw,h⟩⟩:=guardK_ok h
  ·rw [<- hm] at hw ⊢
   split at h
   ·obtain ⟨outs,h1,h2⟩:=execP_ok hT h0 hw.loc h
    split at h2
    ·rename_i hin
     simp only [Bool.and_eq_true] at hin
     obtain ⟨hin,hbo⟩:=hin
     obtain ⟨s',kn',rws,h3,h4,h5⟩:=ih (acc:=acc++[_]) (by simp [hacc]) hr h2
     rw [List.append_assoc,List.singleton_append] at h3 h4
     refine ⟨s',kn',_::rws,h3,.cons outs ?_ ?_ ?_ hbo (by rw [ups_mk];exact h4),h5⟩
     ·intro o' d' ho' hd'
      rw [h0] at ho';cases ho'
      rw [hat]
      simp [dstL,hd']
     ·rw [hat]
      rw [loc_more (fun q hq=>?_)]
      ·exact h1
      ·rcases List.mem_append.1 hq with hq | hq
       ·exact dstL_in hq
       ·obtain ⟨p,hp,rfl⟩:=List.mem_map.1 hq
        simpa using List.all_eq_true.1 hin p hp
     ·intro q K' hq
      rw [hat]
      exact List.mem_append_right _ (List.mem_map.2 ⟨_,hq,rfl⟩)
    ·exact h2.elim
   ·split at h
    ·rename_i hnd
     simp only [Bool.and_eq_true,List.all_eq_true] at hnd
     obtain ⟨hnd,hts⟩:=hnd
     have hts:∀ t∈fzAt fz acc.length,t∈reads pn all s1 o:=fun t ht=>by simpa using hts t ht
     obtain ⟨outs,h1,h2⟩:=execT_ok hT h0 (hw.loc.fz' hnd) h
     split at h2
     ·rename_i hin
      simp only [Bool.and_eq_true] at hin
      obtain ⟨hin,hbo⟩:=hin
      obtain ⟨s',kn',rws,h3,h4,h5⟩:=ih (acc:=acc++[_]) (by simp [hacc]) hr h2
      rw [List.append_assoc,List.singleton_append] at h3 h4
      refine ⟨s',kn',_::rws,h3,.cons (fzL (fyAt fz acc.length) s1 (fzAt fz acc.length)++outs) ?_ ?_ ?_ hbo (by rw [ups_append,ups_mk,ups_mk];exact h4),h5⟩
      ·intro o' d' ho' hd'
       rw [h0] at ho';cases ho'
       rw [hat]
       simp [dstL,hd']
      ·rw [hat]
       rw [loc_more (fun q hq=>?_)]
       ·have:=ops_fzg (z:=fyAt fz acc.length) (P:=P) (S:=pn) (ops:=all.toArray) (i:=k) (s:=s1) (σ:=loc (reads pn all s1 o) (mk s1)) (fzAt fz acc.length) (outs:=outs) [] (fun t ht=>loc_in (hts t ht)) (nodupN_ok (by simp only [fzOk,Bool.and_eq_true] at hnd;exact hnd.1)) (by simp)
        exact this h1
       ·rcases List.mem_append.1 hq with hq | hq
        ·exact dstL_in hq
        ·obtain ⟨p,hp,rfl⟩:=List.mem_map.1 hq
         rcases List.mem_append.1 hp with hp | hp
         ·exact hts _ (fzL_in hp)
         ·simpa using List.all_eq_true.1 hin p hp
      ·intro q K' hq
       rw [hat]
       exact List.mem_append_right _ (List.mem_map.2 ⟨_,hq,rfl⟩)
     ·exact h2.elim
    ·exact h.elim
  ·rw [<- hm] at hw ⊢
   split at h
   rotate_left
   ·exact h.elim
   ·rename_i hbo
    obtain ⟨s',kn',rws,h3,h4,h5⟩:=ih (acc:=acc++[_]) (by simp [hacc]) hr h
    rw [List.append_assoc,List.singleton_append] at h3 h4
    have hdin:∀ t,o.dst=some t->t∈reads pn all s1 o:=fun t ht=>dst_in ht
    refine ⟨s',kn',_::rws,h3,.cons (offAt (mk s1) o.dst) ?_ ?_ ?_ hbo (by rw [ups_mk];exact h4),h5⟩
    ·intro o' d' ho' hd'
     rw [h0] at ho';cases ho'
     rw [hat]
     simp [dstL,hd']
    ·rw [hat]
     rw [loc_more (fun q hq=>?_)]
     ·rw [<- offAt_loc hdin]
      exact ops_off h0 hw.loc
     ·cases hd:o.dst with
      | none=>simp [hd,dstL] at hq
      | some d =>
       simp [hd,dstL] at hq
       subst hq
       exact dst_in hd
    ·intro q K' hq
     rw [hat]
     cases hd:o.dst with
     | none=>simp [hd,offAt] at hq
     | some d=>simp [hd,offAt] at hq;simp [dstL,hq.1]
end
def Post (cx:Cx) (K:Exit->L->KN->Prop):Exit->Act->World->Prop:=fun e a w=>∃ s kn,K e s kn/\At cx (mk s) a w
theorem ev_ok {P:Program} {E:Env P} (hT:TabOk P E.T) (hm:P.follows .mixedOrders=true):∀ (c:Code) {i:Nat} {s:L} {kn:KN} {K:Exit->L->KN->Prop} {cx:Cx} {a:Act} {w:World},cx.P=P->cx.n=E.n->cx.pn=E.pn ->
  ev E c i s kn K->At cx (mk s) a w->c.wp P (Post cx K) a w:=by
 intro c
 induction c with
 | skip=>intro i s kn K cx a w _ _ _ h hat;exact wp_skip ⟨s,kn,h,hat⟩
 | region id ops d =>
  intro i s kn K cx a w hP hn hpn h hat
  simp only [ev,fcL_eq] at h
  split at h
  ·rename_i V hV
   split at h
   ·split at h
    ·rename_i hok
     obtain ⟨s',kn',h1,h2⟩:=evOps_ok hT (K:=fun s kn=>K .normal (canonL V s) kn) ops.toList (k:=0) (fun j=>.inr (by simp)) h
     have:=region_plain (id:=id) (l:=ops.toList) (Q:=Post cx K) hP (by rw [hn,hpn];exact hok) (by rw [List.range_eq_range'];exact h1) hat (fun a w hat=>⟨_,_,h2,hat.to V rfl⟩)
     simpa using this
    ·exact h.elim
   ·split at h
    ·rename_i hbk
     obtain ⟨s',kn',rws,h0,h1,h2⟩:=evAny_ok hT (K:=fun s kn=>K .normal (canonL V s) kn) ops.toList (k:=0) (acc:=[]) rfl (fun j=>.inr (by simp)) h
     have:=region_mask (id:=id) (l:=ops.toList) (rw:=[]++rws) (Q:=Post cx K) hP hm (by rw [hn,hpn];exact h0) (bxsK_ok hbk) (by rw [List.range_eq_range'];exact h1) hat (fun a w hat=>⟨_,_,h2,hat.to V rfl⟩)
     simpa using this
    ·exact h.elim
  ·exact h.elim
 | seq x y ihx ihy =>
  intro i s kn K cx a w hP hn hpn h hat
  simp only [ev,fcL_eq] at h
  split at h
  ·refine wp_seq (wp_mono (ihx hP hn hpn h hat) fun e a w ⟨s',kn',h1,h2⟩=>?_)
   cases e with
   | normal=>exact ihy hP hn hpn h1 h2
   | _=>exact ⟨s',kn',h1,h2⟩
  ·obtain ⟨post,h,h0⟩:=h
   refine wp_seq (wp_mono (ihx hP hn hpn h hat) fun e a w ⟨s',kn',h1,h2⟩=>?_)
   cases e with
   | normal =>
    obtain ⟨x,h3,h4⟩:=h1
    exact ihy hP hn hpn (h0 x h4) (same_at h3 h2)
   | _=>exact ⟨s',kn',h1,h2⟩
 | cond c x y ihx ihy =>
  intro i s kn K cx a w hP hn hpn h hat
  simp only [ev,fcL_eq] at h
  split at h
  ·split at h
   ·rename_i hc
    exact code_cond hat hc (fun _=>ihx hP hn hpn h hat) (by simp)
   ·rename_i hc
    exact code_cond hat hc (by simp) (fun _=>ihy hP hn hpn h hat)
   ·exact h.elim
  ·split at h
   ·rename_i d _
    split at h
    ·rename_i t lg hd
     have hc:oneC (mk s) (.tmp d)=some (.b t):=by simp [oneC,one1,hd,look]
     refine code_cond hat hc (fun ht=>?_) (fun ht=>?_)
     ·subst ht;exact ihx hP hn hpn (h.1 rfl) (by rw [mk_setB hd];exact hat)
     ·subst ht;exact ihy hP hn hpn (h.2 rfl) (by rw [mk_setB hd];exact hat)
    ·exact h.elim
   ·exact h.elim
 | block id b ih =>
  intro i s kn K cx a w hP hn hpn h hat
  simp only [ev,fcL_eq] at h
  refine wp_block (wp_mono (ih hP hn hpn h hat) fun e a w ⟨s',kn',h1,h2⟩=>?_)
  cases e with
  | exit j =>
   simp only at h1
   simp only [Exit.inBlock]
   split at h1
   ·rename_i hj;rw [if_pos hj];exact ⟨s',kn',h1,h2⟩
   ·rename_i hj;rw [if_neg hj];exact ⟨s',kn',h1,h2⟩
  | _=>exact ⟨s',kn',h1,h2⟩
 | loop b ih =>
  intro i s kn K cx a w hP hn hpn h hat
  simp only [ev,fcL_eq] at h
  split at h
  ·rename_i F hF
   obtain ⟨pre,μ,x0,h1,h2,h3⟩:=h
   refine code_loop F.st pre μ x0 h2 (same_at h1 hat) fun x a w hx hat=>?_
   refine wp_mono (ih hP hn hpn (h3 x hx) hat) fun e a w ⟨s',kn',h4,h5⟩=>?_
   cases e with
   | normal =>
    obtain ⟨y,h6,h7,h8⟩:=h4
    exact ⟨y,h7,h8,same_at h6 h5⟩
   | _=>exact ⟨s',kn',h4,h5⟩
  ·exact h.elim
 | exit id=>intro i s kn K cx a w _ _ _ h hat;exact wp_exit ⟨s,kn,h,hat⟩
 | ret=>intro i s kn K cx a w _ _ _ h hat;exact wp_ret ⟨s,kn,h,hat⟩
 | _=>intro i s kn K cx a w _ _ _ h hat;simp only [ev] at h
end Go.Proofs.AI
namespace Go.Proofs.AI
open Go.RowKit
set_option linter.unusedVariables false
set_option linter.unusedSimpArgs false
abbrev Took:=Sh×List CV
def takeRs (T:Tab):St->List ResultVar->Option (List Took×L)
 | σ,[]=>some ([],[])
 | σ,rv::r=>match takeR T σ rv with
  | some (sh,xs,o)=>match takeRs T (ups σ o) r with
   | some (l,o2)=>some ((sh,xs)::l,o++o2)
   | none=>none
  | none=>none
def sigOf (p:Took):Bool×Nat:=(match p.1 with | .agg=>true | _=>false,p.2.length)
def resK:List Took->Ky
 | []=>⟨.tup [],[],[]⟩
 | [(sh,xs)]=>⟨sh,xs.map SC.c,[]⟩
 | l=>⟨.tup (l.map sigOf),(l.flatMap (·.2)).map SC.c,[]⟩
def runRs (tmps:Array Value):List ResultVar->Sem (List Value)
 | []=>pure []
 | rv::r=>do let v <- runR tmps rv;let vs <- runRs tmps r;pure (v::vs)
structure Took2 (cx:Cx) (I:Nat->Prop) (U:Nat->Nat->Value) (B:Nat->Nat×Nat) (σ':St) (a:Act) (w:World) (D0:FP) (us:Nat->Value) (xs:List CV) (F':Nat->FP) (N:Nat->FP):Prop where
 rel:RelW cx I U B F' σ' a w
 rep:∀ (o:Nat) x,xs[o]?=some x->Rep cx.P w I x (us o) (N o)
 dis:∀ o o' b,N o b->N o' b->o=o'
 sub:∀ o b,N o b->F' cx.n b/\¬ D0 b
 old:∀ b,D0 b->F' cx.n b
section
variable {cx:Cx} {I:Nat->Prop} {U:Nat->Nat->Value} {B:Nat->Nat×Nat} {a:Act} {w:World}
theorem takeRs_ok {T:Tab} (hT:TabOk cx.P T):∀ (rvs:List ResultVar) {F:Nat->FP} {σ:St} {ps:List Took} {out:L},RelW cx I U B F σ a w->takeRs T σ rvs=some (ps,out) ->
  ∃ F' N us vs,(runRs a.tmps rvs).run cx.P w=.ok vs w/\vs.length=ps.length/\tupParts (ps.map sigOf) us=vs/\(∀ o,o<(ps.flatMap (·.2)).length->One (us o))/\(∀ p∈ps,isVal p.1=true) /\
   (∀ sh xs,ps=[(sh,xs)]->∃ v,vs=[v]/\RootAt w ⟨sh,xs.map SC.c,[]⟩ v us (0,0))/\Took2 cx I U B (ups σ out) a w (F cx.n) us (ps.flatMap (·.2)) F' N:=by
 intro rvs
 induction rvs with
 | nil =>
  intro F σ ps out h ht
  simp only [takeRs] at ht
  injection ht with ht;injection ht with h1 h2;subst h1 h2
  exact ⟨F,fun _=>FP.none,fun _=>undef,[],rfl,rfl,rfl,fun o ho=>absurd ho (Nat.not_lt_zero o),by simp,(by intro sh xs he;cases he),⟨h,fun o x hx=>by simp at hx,fun _ _ _ h=>h.elim,fun _ _ h=>h.elim,fun _ h=>h⟩⟩
 | cons rv r ih =>
  intro F σ ps out h ht
  simp only [takeRs] at ht
  split at ht
  ·rename_i sh xs o h1
   split at ht
   ·rename_i l o2 h2
    injection ht with ht;injection ht with e1 e2;subst e1 e2
    obtain ⟨F1,N1,us1,v1,r1,r2,r3,g1⟩:=takeR_ok h hT h1
    obtain ⟨F2,N2,us2,vs2,s1,sl,s2,s3,s4,s5,g2⟩:=ih g1.rel h2
    let us:Nat->Value:=fun o=>if o<xs.length then us1 o else us2 (o-xs.length)
    have hval:isVal sh=true:=r2
    have p1:=r3.val r2 (us':=us) (fun o ho=>by simp [us,ho])
    have hshift:(fun j=>us (xs.length+j))=us2:=funext fun j=>by simp only [us];rw [if_neg (by omega),Nat.add_sub_cancel_left]
    have hone:∀ o,o<xs.length->One (us1 o):=fun o ho=>r3.1 o (by simpa)
    refine ⟨F2,fun o=>if o<xs.length then N1 o else N2 (o-xs.length),us,v1::vs2,?_,by simp [sl],?_,?_,?_,?_,?_⟩
    ·simp only [runRs,Sem.run_bind,r1,Result.andThen_ok,s1,Sem.run_pure]
    ·have q1:sh=.one∨sh=.agg:=by cases sh<;>simp [isVal] at hval<;>simp
     rcases q1 with rfl | rfl<;>simp only [reduceCtorEq,if_false,if_true] at p1<;>simp only [List.map_cons,sigOf,tupParts,hshift,s2]<;>rw [<- p1]
    ·intro o ho
     simp only [List.flatMap_cons,List.length_append] at ho
     simp only [us]
     split
     ·rename_i hlt;exact hone o hlt
     ·exact s3 _ (by omega)
    ·intro p hp
     rcases List.mem_cons.1 hp with rfl | hp
     ·exact hval
     ·exact s4 p hp
    ·intro sh' xs' he
     injection he with he1 he2
     subst he2
     injection he1 with he1 he3;subst he1 he3
     have:vs2=[]:=List.eq_nil_of_length_eq_zero (by simpa using sl)
     subst this
     refine ⟨v1,rfl,⟨fun o ho=>?_,?_⟩⟩
     ·have ho':o<xs.length:=by simpa using ho
      simp only [us,ho',if_true];exact hone o ho'
     ·have h2:=r3.2
      have hus:∀ o,o<xs.length->us o=us1 o:=fun o ho=>by simp [us,ho]
      cases sh with
      | one=>simp only [List.length_map] at h2 ⊢;exact ⟨h2.1,by rw [hus 0 (by omega)];exact h2.2⟩
      | agg =>
       simp only [List.length_map] at h2 ⊢
       obtain ⟨arr,a1,a2,a3⟩:=h2
       exact ⟨arr,a1,a2,fun o ho=>by rw [hus o ho];exact a3 o ho⟩
      | tup sig=>simp [isVal] at hval
      | box=>simp [isVal] at hval
    ·rw [ups_append]
     refine ⟨g2.rel,fun o y hy=>?_,fun o o' b hb hb'=>?_,fun o b hb=>?_,fun b hb=>g2.old b (g1.old b hb)⟩
     ·simp only [List.flatMap_cons] at hy
      simp only [us]
      by_cases ho:o<xs.length
      ·rw [List.getElem?_append_left ho] at hy
       simp only [ho,if_true]
       exact g1.rep o _ hy
      ·rw [List.getElem?_append_right (by omega)] at hy
       simp only [ho,if_false]
       exact g2.rep _ _ hy
     ·split at hb<;>split at hb'
      ·exact g1.dis _ _ _ hb hb'
      ·exact absurd (g1.sub _ _ hb).1 (g2.sub _ _ hb').2
      ·exact absurd (g1.sub _ _ hb').1 (g2.sub _ _ hb).2
      ·have:=g2.dis _ _ _ hb hb';omega
     ·split at hb
      ·exact ⟨g2.old b (g1.sub o b hb).1,(g1.sub o b hb).2.1⟩
      ·exact ⟨(g2.sub _ _ hb).1,fun hd=>(g2.sub _ _ hb).2 (g1.old b hd)⟩
   ·cases ht
  ·cases ht
def boxRes (σ:St):List Nat->List ResultVar->Option (List SC)
 | [],[.tmp t]=>match σ t with
  | some ⟨.box,cells,_⟩=>some cells
  | some ⟨.one,[.pr k 0 n],_⟩=>match σ k with
   | some ⟨.box,cells,lg⟩=>match gone lg n with
    | false=>some cells
    | true=>none
   | _=>none
  | _=>none
 | _,_=>none
def endR (T:Tab) (m:Nat) (pn:List Nat) (rvs:List ResultVar) (post:L->Prop) (s:L):Prop :=
 match boxRes (mk s) pn rvs with
 | some cells=>post [(m,⟨.box,cells.map boxC,[]⟩)]
 | none=>match takeRs T (mk s) rvs with
  | some (ps,out)=>match boxesL (ups (mk s) out) pn with
   | some lb=>post ((m,resK ps)::lb)
   | none=>False
  | none=>False
def endK (T:Tab) (m:Nat) (pn:List Nat) (rvs:List ResultVar) (post:L->Prop):Exit->L->KN->Prop
 | .normal,s,_=>endR T m pn rvs post s
 | .ret,s,_=>endR T m pn rvs post s
 | _,_,_=>False
def valOf:List Value->Value
 | [v]=>v
 | vs=>.tuple vs.toArray
theorem runRs_results {fn:Func} {tmps:Array Value} {rvs:List ResultVar} (hres:fn.results=rvs.toArray) (hl:rvs.length<=4) {P:Program} {w:World} {vs:List Value} (hv:vs.length=rvs.length) (h:(runRs tmps rvs).run P w=.ok vs w) :
  (results fn tmps).run P w=.ok (valOf vs) w:=by
 match rvs,hl with
 | [],_ =>
  simp [runRs] at h
  subst h
  exact results_none (by simpa using hres) _ _ _
 | [r1],_ =>
  have:(results fn tmps).run P w=(runR tmps r1).run P w:=by
   cases r1<;>simp [results,hres,runR]
  rw [this]
  simp only [runRs,Sem.run_bind,Sem.run_pure] at h
  cases h1:(runR tmps r1).run P w with
  | ok v w1 =>
   simp only [h1,Result.andThen_ok] at h
   injection h with h h2;subst h h2
   rfl
  | _=>simp [h1] at h
 | [r1,r2],_ =>
  have:(results fn tmps).run P w=((runRs tmps [r1,r2]).run P w).andThen fun l w=>.ok (.tuple l.toArray) w:=by
   cases r1<;>cases r2<;>simp [results,hres,runRs,runR,andThen_assoc]
  rw [this,h]
  simp only [Result.andThen_ok]
  match vs,hv with
  | [_,_],_=>rfl
 | [r1,r2,r3],_ =>
  have:(results fn tmps).run P w=((runRs tmps [r1,r2,r3]).run P w).andThen fun l w=>.ok (.tuple l.toArray) w:=by
   cases r1<;>cases r2<;>cases r3<;>simp [results,hres,runRs,runR,andThen_assoc]
  rw [this,h]
  simp only [Result.andThen_ok]
  match vs,hv with
  | [_,_,_],_=>rfl
 | [r1,r2,r3,r4],_ =>
  have:(results fn tmps).run P w=((runRs tmps [r1,r2,r3,r4]).run P w).andThen fun l w=>.ok (.tuple l.toArray) w:=by
   cases r1<;>cases r2<;>cases r3<;>cases r4<;>simp [results,hres,runRs,runR,andThen_assoc]
  rw [this,h]
  simp only [Result.andThen_ok]
  match vs,hv with
  | [_,_,_,_],_=>rfl
theorem takeRs_length {T:Tab}:∀ (rvs:List ResultVar) {σ:St} {ps:List Took} {out:L},takeRs T σ rvs=some (ps,out)->ps.length=rvs.length
 | [],σ,ps,out,h=>by simp only [takeRs] at h;injection h with h;injection h with h1 _;subst h1;rfl
 | rv::r,σ,ps,out,h=>by
  simp only [takeRs] at h
  split at h
  ·split at h
   ·rename_i hr
    injection h with h;injection h with h1 _;subst h1
    simp [takeRs_length r hr]
   ·cases h
  ·cases h
theorem leaves_many {cx:Cx} {σ:St} {a:Act} {w:World} {fn:Func} {post:L->Prop} {T:Tab} (hT:TabOk cx.P T) (hr:At cx σ a w) (hlt:∀ t∈cx.pn,t<cx.args.size) {rvs:List ResultVar} (hres:fn.results=rvs.toArray) (hl:rvs.length<=4)
  {ps:List Took} {out lb:L} (ht:takeRs T σ rvs=some (ps,out)) (hlb:boxesL (ups σ out) cx.pn=some lb) (hp:post ((cx.args.size,resK ps)::lb)):Leaves cx fn post .ret a w:=by
 obtain ⟨⟨I,U,B,F,h⟩,hpin⟩:=hr
 obtain ⟨F',N,us,vs,t1,t2,t3,t4,t5,t6,g⟩:=takeRs_ok hT rvs (held_none h) ht
 have hrun:=runRs_results hres hl (by rw [t2,takeRs_length rvs ht]) t1
 have hroot:RootAt w (resK ps) (valOf vs) us (0,0)/\(resK ps).sh≠.box/\(resK ps).cells=(ps.flatMap (·.2)).map SC.c:=by
  match ps,vs,t2 with
  | [],[],_=>exact ⟨⟨fun o ho=>absurd ho (Nat.not_lt_zero o),rfl⟩,by simp [resK],rfl⟩
  | [(sh,xs)],[v],_ =>
   obtain ⟨v',e,hr⟩:=t6 sh xs rfl
   injection e with e _;subst e
   have:=t5 (sh,xs) (by simp)
   exact ⟨hr,by rintro e;simp only [resK] at e;rw [e] at this;simp [isVal] at this,by simp [resK]⟩
  | p1::p2::ps,v1::v2::vs,_ =>
   refine ⟨⟨fun o ho=>t4 o (by simpa [resK] using ho),?_⟩,by simp [resK],by simp [resK]⟩
   simp only [resK,valOf]
   rw [t3]
 obtain ⟨r1,r2,r3⟩:=hroot
 refine ⟨h.defers,valOf vs,_,hrun,hp,exit_rel g.rel hpin hlt hlb r1 r2 (by rw [r3];simp [List.all_eq_true,isC]) (fun o y hy=>?_) g.dis (fun o b hb=>(g.sub o b hb).1)⟩
 rw [r3,List.getElem?_map] at hy
 obtain ⟨y',hy',he⟩:=Option.map_eq_some_iff.1 hy
 injection he with he;subst he
 exact g.rep o _ hy'
end
theorem fun_ev {P:Program} {E:Env P} (hT:TabOk P E.T) (hm:P.follows .mixedOrders=true) {f m:Nat} {fn:Func} {c:Code} {rvs:List ResultVar} {ins:L} {post:L->Prop} (hf:P.funcs[f]?=some fn) (hb:fn.body=some c) (hn:(fn.name=="runtime.NumGoroutine")=false) (hnt:fn.ntmps=E.n) (hmn:m<=E.n)
  (hbx:∀ t∈E.pn,t<m) (hres:fn.results=rvs.toArray) (hl:rvs.length<=4) (h:ev E c 0 ins [] (endK E.T m E.pn rvs post)):FunOK P f m E.pn ins post:=by
 refine fun_ok hf hb hn (by omega) hbx fun cx a w hP hn hpn hsz hat=>?_
 refine wp_mono (ev_ok hT hm c hP (hn.trans hnt) hpn h hat) fun e a w ⟨s,kn,h1,h2⟩=>?_
 subst hP
 have key:∀ {x:Prop},endR E.T m E.pn rvs post s->Leaves cx fn post .ret a w:=fun {_} h1=>by
  unfold endR at h1
  split at h1
  ·rename_i cells hb
   have hpn0:E.pn=[]:=by
    unfold boxRes at hb
    split at hb
    ·assumption
    ·cases hb
   unfold boxRes at hb
   split at hb
   ·rename_i t _ _
    split at hb
    ·rename_i cells' lg hK
     injection hb with hb;subst hb
     exact leaves_box h2 (by rw [hpn];exact hpn0) hres hK rfl (by rw [hsz];exact h1)
    ·rename_i k n lg hK
     split at hb
     ·rename_i cells' lg' hK'
      split at hb
      ·rename_i hgn
       injection hb with hb;subst hb
       exact leaves_boxP h2 (by rw [hpn];exact hpn0) hres hK hK' rfl hgn (by rw [hsz];exact h1)
      ·cases hb
     ·cases hb
    ·cases hb
   ·cases hb
  ·split at h1
   ·rename_i ps out ht
    split at h1
    ·rename_i lb hlb
     refine leaves_many hT h2 (by rw [hpn,hsz];exact hbx) hres hl ht (by rw [hpn];exact hlb) (by rw [hsz];exact h1)
    ·exact h1.elim
   ·exact h1.elim
 cases e with
 | normal=>exact (key (x:=True) h1).both
 | ret=>exact key (x:=True) h1
 | _=>exact h1.elim
theorem FunOK.to {P:Program} {f m:Nat} {bx:List Nat} {ins out:L} (h:FunOK P f m bx ins (fun l=>sameL l out)):FunOK P f m bx ins (·=out) :=
 fun F0 I0 args w hm hr=>(h F0 I0 args w hm hr).mono fun v w' ⟨l,h1,h2⟩=>⟨out,rfl,same_rel h1 h2⟩
def lenC:SC->Prop
 | .c (.sh _ r)=>r.n<=9223372036854775807
 | .c (.ow _ r)=>r.n<=9223372036854775807
 | _=>True
def lens:L->Prop
 | []=>True
 | (k,K)::r=>(∀ x∈K.cells,lenC x)/\lens r
theorem lenC_ok {P:Program} {w:World} {I:Nat->Prop} {σ:St} {U:Nat->Nat->Value} {B:Nat->Nat×Nat} {x:SC} {v:Value} {G:FP} (h:SCRep P w I σ U B x v G):lenC x:=by
 cases x with
 | c x =>
  cases x with
  | sh e r=>obtain ⟨A,c,us,_,h1,h2,_⟩:=Rep.sh_inv h;exact h2
  | ow e r =>
   rcases Rep.ow_inv h with ⟨_,h0⟩ | ⟨g,cap,cur,us,G,_,_,_,h3,h4,_⟩
   ·simp only [lenC];omega
   ·simp only [lenC,maxLen] at *;omega
  | _=>trivial
 | _=>trivial
def nodupK:L->Bool
 | []=>true
 | (k,_)::r=>!(r.any fun p=>p.1==k)&&nodupK r
theorem lens_ok {cx:Cx} {a:Act} {w:World} {l:L} (h:Rel cx (mk l) a w):nodupK l=true->lens l:=by
 obtain ⟨I,U,B,F,h⟩:=h
 have gen:∀ (l1 l2:L),l=l1++l2->nodupK l=true->lens l2:=by
  intro l1 l2
  induction l2 generalizing l1 with
  | nil=>intro _ _;trivial
  | cons p r ih =>
   obtain ⟨k,K⟩:=p
   intro he hn
   refine ⟨fun x hx=>?_,ih (l1++[(k,K)]) (by simp [he]) hn⟩
   have hk:mk l k=some K:=by
    subst he
    clear ih h
    induction l1 with
    | nil=>simp [mk,up]
    | cons q l1 ih1 =>
     obtain ⟨d,D⟩:=q
     simp only [List.cons_append,nodupK,Bool.and_eq_true,Bool.not_eq_true'] at hn
     have hne:k≠d:=by
      rintro rfl
      have:=hn.1
      simp at this
     simp only [List.cons_append,mk,up,hne,if_false]
     exact ih1 hn.2
   obtain ⟨_,_,⟨N,n1,_⟩,_⟩:=h.key k K hk
   obtain ⟨o,ho⟩:=List.getElem?_of_mem hx
   exact lenC_ok (n1 o x ho)
 exact gen [] l rfl
theorem fun_to {P:Program} {E:Env P} (hT:TabOk P E.T) (hm:P.follows .mixedOrders=true) {f m:Nat} {fn:Func} {c:Code} {rvs:List ResultVar} {ins out:L} (hf:P.funcs[f]?=some fn) (hb:fn.body=some c) (hnt:fn.ntmps=E.n) (hres:fn.results=rvs.toArray)
  (hck:((fn.name != "runtime.NumGoroutine")&&Nat.ble m E.n&&E.pn.all (fun t=>Nat.blt t m)&&Nat.ble rvs.length 4&&nodupK ins)=true) (h:lens ins->ev E c 0 ins [] (endK E.T m E.pn rvs fun l=>sameL l out)):FunOK P f m E.pn ins (·=out):=by
 simp only [Bool.and_eq_true,List.all_eq_true,Nat.ble_eq,Nat.blt_eq] at hck
 obtain ⟨⟨⟨⟨k1,k2⟩,k3⟩,k4⟩,k5⟩:=hck
 have hn:(fn.name=="runtime.NumGoroutine")=false:=by simpa using k1
 intro F0 I0 args w hs hr
 exact (fun_ev hT hm hf hb hn hnt k2 (fun t ht=>k3 t ht) hres k4 (h (lens_ok hr k5))).to F0 I0 args w hs hr
end Go.Proofs.AI
namespace Go.Proofs.AI
open Go.RowKit
set_option linter.unusedVariables false
set_option linter.unusedSimpArgs false
def fieldOf (P:Program) (f:Field):Option (Nat×Nat×Bool) :=
 match P.info? f.type with
 | some inf=>match P.underlying f.type with
  | some d=>if 0<inf.size then some (f.offset,inf.size,d.isRow) else none
  | none=>none
 | none=>none
def fieldsOf (P:Program):List Field->Option (List (Nat×Nat×Bool))
 | []=>some []
 | f::r=>match fieldOf P f with
  | some x=>match fieldsOf P r with
   | some l=>some (x::l)
   | none=>none
  | none=>none
def kindOf' (P:Program):TypeDesc->Option (TK×List (Nat×Nat×Bool))
 | .bool=>some (.bool,[])
 | .int k=>some (.int k,[])
 | .string=>some (.str,[])
 | .slice e=>some (.sl e,[])
 | .struct fs=>match fieldsOf P fs.toList with
  | some l=>some (.st,l)
  | none=>none
 | d=>if d.isRow then none else some (.oth,[])
def tabOf (P:Program):Tab:=fun t =>
 match P.info? t with
 | some inf=>match inf.zero with
  | some z=>match P.underlying t with
   | some d=>match kindOf' P d with
    | some (k,l)=>if (z.cells.toList.all (·.oneCell'))&&z.cells.toList.length==inf.size then some ⟨k,inf.size,inf.bytes,l,z.cells.toList,[],[]⟩ else none
    | none=>none
   | none=>none
  | none=>none
 | none=>none
theorem fieldsOf_ok {P:Program}:∀ (fs:List Field) {l:List (Nat×Nat×Bool)},fieldsOf P fs=some l->fs.length=l.length/\∀ (j:Nat) (f:Field),fs[j]?=some f->∃ (s:Nat) (b:Bool),l[j]?=some (f.offset,s,b)/\(∃ inf,P.info? f.type=some inf/\inf.size=s/\0<s)/\(∃ d,P.underlying f.type=some d/\d.isRow=b):=by
 intro fs
 induction fs with
 | nil=>intro l h;simp only [fieldsOf] at h;injection h with h;subst h;exact ⟨rfl,fun j f hf=>by simp at hf⟩
 | cons f r ih =>
  intro l h
  simp only [fieldsOf] at h
  split at h
  ·rename_i x hx
   split at h
   ·rename_i l' hl
    injection h with h;subst h
    obtain ⟨h1,h2⟩:=ih hl
    refine ⟨by simp [h1],fun j g hg=>?_⟩
    cases j with
    | zero =>
     simp at hg;subst hg
     unfold fieldOf at hx
     split at hx
     ·rename_i inf hinf
      split at hx
      ·rename_i d hd
       split at hx
       ·rename_i hp
        injection hx with hx;subst hx
        exact ⟨_,_,rfl,⟨inf,hinf,rfl,hp⟩,d,hd,rfl⟩
       ·cases hx
      ·cases hx
     ·cases hx
    | succ j=>simpa using h2 j g (by simpa using hg)
   ·cases h
  ·cases h
theorem tabOf_ok {P:Program}:TabOk P (tabOf P):=by
 intro t i h
 unfold tabOf at h
 split at h
 ·rename_i inf hinf
  split at h
  ·rename_i z hz
   split at h
   ·rename_i d hd
    split at h
    ·rename_i k l hk
     split at h
     ·rename_i hc
      injection h with h;subst h
      simp only [Bool.and_eq_true,List.all_eq_true,beq_iff_eq] at hc
      refine ⟨⟨inf,z,hinf,rfl,rfl,hz,rfl,fun v hv=>hc.1 v hv,hc.2⟩,fun he=>absurd rfl he,?_⟩
      simp only
      cases d<;>simp only [kindOf',TypeDesc.isRow] at hk<;>first
       | (injection hk with hk;injection hk with h1 h2;subst h1 h2;exact hd)
       | (injection hk with hk;injection hk with h1 h2;subst h1 h2;exact ⟨_,hd,rfl⟩)
       | skip
      all_goals first
       | (
        split at hk
        ·rename_i l' hl
         injection hk with hk;injection hk with h1 h2;subst h1 h2
         obtain ⟨g1,g2⟩:=fieldsOf_ok _ hl
         exact ⟨_,hd,by simpa using g1,fun j f hf=>g2 j f (by simpa using hf)⟩
        ·cases hk)
       | (simp at hk;done)
       | (simp at hk;obtain ⟨rfl,rfl⟩:=hk;exact ⟨_,hd,rfl⟩)
     ·cases h
    ·cases h
   ·cases h
  ·cases h
 ·cases h
end Go.Proofs.AI
namespace Go.Proofs.AI
open Go.RowKit
set_option linter.unusedVariables false
set_option linter.unusedSimpArgs false
def ckOf:Option TypeDesc->CK->Bool
 | some .bool,.b=>true
 | some (.int k),.n k'=>decide (k=k')
 | _,_=>false
def eqFs (P:Program):List CK->Nat->List Field->Bool
 | [],_,[]=>true
 | k::ks,j,f::fs=>(f.name != "_")&&f.offset==j&&ckOf (P.underlying f.type) k&&eqFs P ks (j+1) fs
 | _,_,_=>false
def eqT (P:Program) (t:TypeId) (ks:List CK):Bool:=!P.stoodInHeld t&&!P.eqGuardType P.depth t&&match P.underlying t with
 | some (.struct fs)=>eqFs P ks 0 fs.toList
 | _=>false
theorem run_part_ck {P:Program} {w:World} {t:TypeId} {k:CK} (h:ckOf (P.underlying t) k=true) {xs:Array Value} {j:Nat} {v:Value} (hx:xs[j]?=some v):(part t xs j).run P w=.ok v w:=by
 unfold ckOf at h
 split at h
 ·rename_i hu;simp [part,isAgg,run_underlying hu,TypeDesc.isRow,hx]
 ·rename_i hu;simp [part,isAgg,run_underlying hu,TypeDesc.isRow,hx]
 ·cases h
theorem run_eq_ck {P:Program} {w:World} {t:TypeId} {k:CK} (h:ckOf (P.underlying t) k=true) {u v:Value} (hu:isCK k u) (hv:isCK k v) (d:Nat):(Op.equalIn (d+1) t u v).run P w=.ok (eqC u v) w:=by
 unfold ckOf at h
 split at h
 ·rename_i ht
  obtain ⟨x,rfl⟩:=hu;obtain ⟨y,rfl⟩:=hv
  exact run_equalIn_bool w d t x y ht
 ·rename_i ht
  obtain ⟨x,rfl⟩:=hu;obtain ⟨y,rfl⟩:=hv
  exact run_equalIn_int w d t _ _ x y ht
 ·cases h
theorem eqL_cons {x y:Value} {xs ys:List Value} (h:xs.length=ys.length):eqL (x::xs) (y::ys)=(eqC x y&&eqL xs ys):=by
 cases xs<;>cases ys<;>simp_all [eqL]
theorem areCK_length:∀ {ks:List CK} {xs:List Value},areCK ks xs->ks.length=xs.length
 | [],[],_=>rfl
 | [],_::_,h=>h.elim
 | _::_,[],h=>h.elim
 | _::ks,_::xs,h=>by simp [areCK_length h.2]
theorem run_eqFields {P:Program} {w:World} {xs ys:Array Value} (d:Nat):∀ (ks:List CK) (j:Nat) (fs:List Field) (a b:List Value),eqFs P ks j fs=true->xs.toList.drop j=a->ys.toList.drop j=b->areCK ks a->areCK ks b ->
  (Op.eqFields (d+1) xs ys fs).run P w=.ok (eqL a b) w
 | [],j,[],[],[],_,_,_,_,_=>by simp [Op.eqFields,eqL]
 | [],j,[],_::_,_,_,_,_,h,_=>h.elim
 | [],j,[],[],_::_,_,_,_,_,h=>h.elim
 | [],j,_::_,_,_,h,_,_,_,_=>by simp [eqFs] at h
 | _::_,j,[],_,_,h,_,_,_,_=>by simp [eqFs] at h
 | _::_,j,_::_,[],_,_,_,_,h,_=>h.elim
 | _::_,j,_::_,_::_,[],_,_,_,_,h=>h.elim
 | k::ks,j,f::fs,x::a,y::b,h,hx,hy,ha,hb=>by
  simp only [eqFs,Bool.and_eq_true,bne_iff_ne,beq_iff_eq] at h
  obtain ⟨⟨⟨h1,h2⟩,h3⟩,h4⟩:=h
  have gx:xs[j]?=some x:=by
   have:=congrArg (·[0]?) hx
   simpa using this
  have gy:ys[j]?=some y:=by
   have:=congrArg (·[0]?) hy
   simpa using this
  have dx:xs.toList.drop (j+1)=a:=by rw [<- List.drop_drop,hx];rfl
  have dy:ys.toList.drop (j+1)=b:=by rw [<- List.drop_drop,hy];rfl
  have hl:a.length=b.length:=by rw [<- areCK_length ha.2,<- areCK_length hb.2]
  rw [eqL_cons hl]
  simp only [Op.eqFields,h1,ne_eq,not_false_eq_true,if_true,Sem.run_bind,h2,run_part_ck h3 gx,run_part_ck h3 gy,Result.andThen_ok,run_eq_ck h3 ha.1 hb.1 d]
  cases hc:eqC x y
  ·simp
  ·simpa using run_eqFields d ks (j+1) fs a b h4 dx dy ha.2 hb.2
theorem eqT_ok {P:Program} {t:TypeId} {ks:List CK} (h:eqT P t ks=true) (w:World) (xs ys:Array Value) (ex ey:Operand) (hx:areCK ks xs.toList) (hy:areCK ks ys.toList) :
  (do eqGuard .eql t ex ey (.agg xs) (.agg ys);binOp .eql t (.agg xs) (.agg ys):Sem Value).run P w=.ok (.bool (eqL xs.toList ys.toList)) w /\
  (do eqGuard .neq t ex ey (.agg xs) (.agg ys);binOp .neq t (.agg xs) (.agg ys):Sem Value).run P w=.ok (.bool (!eqL xs.toList ys.toList)) w:=by
 simp only [eqT,Bool.and_eq_true,Bool.not_eq_true'] at h
 obtain ⟨⟨h1,h2⟩,h3⟩:=h
 split at h3
 ·rename_i fs hu
  have hf:P.fieldsOf t=fs:=by simp [Program.fieldsOf,hu]
  have he:(Op.equalIn 10000 t (.agg xs) (.agg ys)).run P w=.ok (eqL xs.toList ys.toList) w:=by
   rw [run_equalIn_struct w 9999 t xs ys (by rw [hf];exact hu) h1,hf]
   exact run_eqFields 9998 ks 0 fs.toList _ _ h3 rfl rfl hx hy
  constructor
  ·simp only [Sem.run_bind,run_eqGuard_agg _ _ _ _ _ _ _ h2,Result.andThen_ok,run_eql_struct,he]
  ·simp only [Sem.run_bind,run_eqGuard_agg _ _ _ _ _ _ _ h2,Result.andThen_ok,run_neq_struct,he]
 ·cases h3
theorem tabOf_eq {P:Program} {t:TypeId} {i:TyI} (h:tabOf P t=some { i with els:=[],eq:=[] }) (he:(i.eq.isEmpty||eqT P t i.eq)=true):TyOk P t i:=by
 have:=tabOf_ok t _ h
 refine ⟨this.info,fun hne w xs ys ex ey h1 h2=>?_,this.desc⟩
 have hq:eqT P t i.eq=true:=by
  cases hi:i.eq with
  | nil=>exact absurd hi hne
  | cons a b=>rw [hi] at he;simpa using he
 exact eqT_ok hq w xs ys ex ey h1 h2
end Go.Proofs.AI
namespace Go.Proofs.AI
open Go.RowKit Go.Proofs
set_option linter.unusedVariables false
set_option linter.unusedSimpArgs false
set_option maxRecDepth 100000
def tab:Tab
 | 3=>some ⟨.int .i64,1,8,[],[.int .i64 0],[],[]⟩
 | 4=>some ⟨.bool,1,1,[],[.bool false],[],[]⟩
 | 5=>some ⟨.int .u8,1,1,[],[.int .u8 0],[],[]⟩
 | 9=>some ⟨.str,1,16,[],[.string ByteArray.empty],[],[]⟩
 | 22=>some ⟨.sl 154,1,24,[],[.slice none 0 0],[],[some 154]⟩
 | 24=>some ⟨.st,2,32,[(0,1,false),(1,1,false)],[.slice none 0 0,.int .i64 0],[],[some 154,none]⟩
 | 25=>some ⟨.sl 116,1,24,[],[.slice none 0 0],[],[some 116]⟩
 | 27=>some ⟨.st,3,56,[(0,2,true),(2,1,false)],[.slice none 0 0,.int .i64 0,.slice none 0 0],[],[some 154,none,some 116]⟩
 | 29=>some ⟨.st,7,56,[(0,1,false),(1,1,false),(2,1,false),(3,1,false),(4,1,false),(5,1,false),(6,1,false)],[.int .i64 0,.int .i64 0,.int .i64 0,.int .i64 0,.int .i64 0,.int .i64 0,.int .i64 0],[.n .i64,.n .i64,.n .i64,.n .i64,.n .i64,.n .i64,.n .i64],[]⟩
 | 31=>some ⟨.st,11,88,[(0,1,false),(1,1,false),(2,1,false),(3,1,false),(4,7,true)],[.int .i64 0,.int .i64 0,.int .i64 0,.int .i64 0,.int .i64 0,.int .i64 0,.int .i64 0,.int .i64 0,.int .i64 0,.int .i64 0,.int .i64 0],[],[]⟩
 | 33=>some ⟨.sl 107,1,24,[],[.slice none 0 0],[],[some 107]⟩
 | 35=>some ⟨.st,2,32,[(0,1,false),(1,1,false)],[.slice none 0 0,.int .i64 0],[],[some 107,none]⟩
 | 36=>some ⟨.sl 69,1,24,[],[.slice none 0 0],[],[some 69]⟩
 | 38=>some ⟨.st,3,56,[(0,2,true),(2,1,false)],[.slice none 0 0,.int .i64 0,.slice none 0 0],[],[some 107,none,some 69]⟩
 | 39=>some ⟨.sl 46,1,24,[],[.slice none 0 0],[],[some 46]⟩
 | 40=>some ⟨.sl 74,1,24,[],[.slice none 0 0],[],[some 74]⟩
 | 44=>some ⟨.st,7,56,[(0,1,false),(1,1,false),(2,1,false),(3,1,false),(4,1,false),(5,1,false),(6,1,false)],[.int .i64 0,.int .i64 0,.int .i64 0,.int .i64 0,.int .i64 0,.int .i64 0,.int .i64 0],[.n .i64,.n .i64,.n .i64,.n .i64,.n .i64,.n .i64,.n .i64],[]⟩
 | 46=>some ⟨.st,11,88,[(0,1,false),(1,1,false),(2,1,false),(3,1,false),(4,7,true)],[.int .i64 0,.int .i64 0,.int .i64 0,.int .i64 0,.int .i64 0,.int .i64 0,.int .i64 0,.int .i64 0,.int .i64 0,.int .i64 0,.int .i64 0],[],[]⟩
 | 55=>some ⟨.sl 5,1,24,[],[.slice none 0 0],[],[some 5]⟩
 | 61=>some ⟨.sl 3,1,24,[],[.slice none 0 0],[],[some 3]⟩
 | 69=>some ⟨.st,11,120,[(0,1,false),(1,7,true),(8,1,false),(9,1,false),(10,1,false)],[.int .i64 0,.int .i64 0,.int .i64 0,.int .i64 0,.int .i64 0,.int .i64 0,.int .i64 0,.int .i64 0,.bool false,.slice none 0 0,.slice none 0 0],[],[none,none,none,none,none,none,none,none,none,some 3,some 3]⟩
 | 74=>some ⟨.st,2,16,[(0,1,false),(1,1,false)],[.int .i64 0,.bool false],[.n .i64,.b],[]⟩
 | 102=>some ⟨.st,3,48,[(0,1,false),(1,1,false),(2,1,false)],[.string ByteArray.empty,.bool false,.slice none 0 0],[],[none,none,some 3]⟩
 | 104=>some ⟨.sl 9,1,24,[],[.slice none 0 0],[],[some 9]⟩
 | 105=>some ⟨.sl 102,1,24,[],[.slice none 0 0],[],[some 102]⟩
 | 107=>some ⟨.st,4,64,[(0,1,false),(1,1,false),(2,1,false),(3,1,false)],[.int .i64 0,.int .i64 0,.slice none 0 0,.slice none 0 0],[],[none,none,some 9,some 102]⟩
 | 116=>some ⟨.st,11,120,[(0,1,false),(1,7,true),(8,1,false),(9,1,false),(10,1,false)],[.int .i64 0,.int .i64 0,.int .i64 0,.int .i64 0,.int .i64 0,.int .i64 0,.int .i64 0,.int .i64 0,.bool false,.slice none 0 0,.slice none 0 0],[],[none,none,none,none,none,none,none,none,none,some 3,some 3]⟩
 | 136=>some ⟨.st,2,32,[(0,1,false),(1,1,false)],[.slice none 0 0,.int .i64 0],[],[some 5,none]⟩
 | 137=>some ⟨.sl 175,1,24,[],[.slice none 0 0],[],[some 175]⟩
 | 138=>some ⟨.sl 35,1,24,[],[.slice none 0 0],[],[some 35]⟩
 | 139=>some ⟨.sl 44,1,24,[],[.slice none 0 0],[],[some 44]⟩
 | 141=>some ⟨.st,7,152,[(0,3,true),(3,1,false),(4,1,false),(5,1,false),(6,1,false)],[.slice none 0 0,.int .i64 0,.slice none 0 0,.slice none 0 0,.slice none 0 0,.slice none 0 0,.slice none 0 0],[],[some 107,none,some 69,some 35,some 46,some 44,some 74]⟩
 | 152=>some ⟨.sl 214,1,24,[],[.slice none 0 0],[],[some 214]⟩
 | 154=>some ⟨.st,4,64,[(0,1,false),(1,1,false),(2,1,false),(3,1,false)],[.int .i64 0,.int .i64 0,.slice none 0 0,.slice none 0 0],[],[none,none,some 9,some 214]⟩
 | 166=>some ⟨.oth,1,8,[],[.pointer none],[],[]⟩
 | 175=>some ⟨.st,11,88,[(0,1,false),(1,7,true),(8,1,false),(9,1,false),(10,1,false)],[.int .i64 0,.int .i64 0,.int .i64 0,.int .i64 0,.int .i64 0,.int .i64 0,.int .i64 0,.int .i64 0,.int .i64 0,.int .i64 0,.int .i64 0],[],[]⟩
 | 214=>some ⟨.st,3,48,[(0,1,false),(1,1,false),(2,1,false)],[.string ByteArray.empty,.bool false,.slice none 0 0],[],[none,none,some 3]⟩
 | 216=>some ⟨.int .u64,1,8,[],[.int .u64 0],[],[]⟩
 | 233=>some ⟨.sl 61,1,24,[],[.slice none 0 0],[],[some 61]⟩
 | 243=>some ⟨.sl 263,1,24,[],[.slice none 0 0],[],[some 263]⟩
 | 245=>some ⟨.st,1,24,[(0,1,false)],[.slice none 0 0],[],[some 263]⟩
 | 249=>some ⟨.st,3,56,[(0,1,false),(1,1,false),(2,1,false)],[.bool false,.slice none 0 0,.slice none 0 0],[],[none,some 9,some 102]⟩
 | 263=>some ⟨.st,2,40,[(0,1,false),(1,1,false)],[.string ByteArray.empty,.slice none 0 0],[],[none,some 3]⟩
 | _=>none
theorem tab_ok:TabOk Tryz.prog tab:=by
 intro t i h
 unfold tab at h
 split at h<;>first | (cases h;first | exact tabOf_eq rfl rfl | exact tabOf_eq rfl (by kernel_rfl)) | cases h
theorem mixed:Tryz.prog.follows .mixedOrders=true:=rfl
abbrev tI:TypeId:=3
abbrev tS:TypeId:=9
abbrev tItem:TypeId:=263
abbrev tWrt:TypeId:=102
abbrev tOp:TypeId:=44
abbrev tNote:TypeId:=107
abbrev tDisk:TypeId:=35
abbrev tMsg:TypeId:=46
abbrev tFTx:TypeId:=69
abbrev tFOut:TypeId:=74
abbrev tEvt:TypeId:=175
structure Item where
 key:ByteArray
 val:List Int
structure Wrt where
 key:ByteArray
 del:Bool
 val:List Int
structure Opr where
 kind:Int
 who:Int
 inn:Int
 code:Int
 sec:Int
 fam:Int
 gen:Int
structure Plan where
 ok:Bool
 locks:List ByteArray
 writes:List Wrt
abbrev Sto:=List Item
abbrev kB (b:Bool):Ky:=⟨.one,[.c (.b b)],[]⟩
abbrev kI (x:Int):Ky:=⟨.one,[.c (.n .i64 x)],[]⟩
abbrev kS (x:ByteArray):Ky:=⟨.one,[.c (.s x)],[]⟩
abbrev k1 (x:CV):Ky:=⟨.one,[.c x],[]⟩
def dItem:Item:=⟨ByteArray.empty,[]⟩
def dWrt:Wrt:=⟨ByteArray.empty,false,[]⟩
def eI (x:Int):List CV:=[.n .i64 x]
def eS (x:ByteArray):List CV:=[.s x]
abbrev sI (xs:List Int):CV:=.sh tI (typ 0 eI xs)
abbrev oI (xs:List Int):CV:=.ow tI (typ 0 eI xs)
abbrev sS (xs:List ByteArray):CV:=.sh tS (typ ByteArray.empty eS xs)
abbrev oS (xs:List ByteArray):CV:=.ow tS (typ ByteArray.empty eS xs)
def eItemS (x:Item):List CV:=[.s x.key,sI x.val]
def eItemO (x:Item):List CV:=[.s x.key,oI x.val]
abbrev sItems (xs:List Item):CV:=.sh tItem (typ dItem eItemS xs)
abbrev oItems (xs:List Item):CV:=.ow tItem (typ dItem eItemO xs)
abbrev mItems (xs:List Item):CV:=.ow tItem (typ dItem eItemS xs)
def eWrtS (x:Wrt):List CV:=[.s x.key,.b x.del,sI x.val]
def eWrtO (x:Wrt):List CV:=[.s x.key,.b x.del,oI x.val]
abbrev sWrts (xs:List Wrt):CV:=.sh tWrt (typ dWrt eWrtS xs)
abbrev oWrts (xs:List Wrt):CV:=.ow tWrt (typ dWrt eWrtO xs)
def eStoS (x:Sto):List CV:=[sItems x]
def eStoO (x:Sto):List CV:=[oItems x]
def cOp (o:Opr):List SC:=[.c (.n .i64 o.kind),.c (.n .i64 o.who),.c (.n .i64 o.inn),.c (.n .i64 o.code),.c (.n .i64 o.sec),.c (.n .i64 o.fam),.c (.n .i64 o.gen)]
abbrev kOp (o:Opr):Ky:=⟨.agg,cOp o,[]⟩
abbrev kSto (s:Sto):Ky:=⟨.agg,[.c (sItems s)],[]⟩
abbrev kWrt (x:Wrt):Ky:=⟨.agg,[.c (.s x.key),.c (.b x.del),.c (sI x.val)],[]⟩
@[simp] theorem typ_n {C α:Type} (d:α) (g:α->List C) (xs:List α):(typ d g xs).n=xs.length:=rfl
@[simp] theorem cn_ow (e:TypeId) (r:Rows CV):cn (.ow e r)=.ow e (raw (cnRs r)):=by simp only [cn]
@[simp] theorem cn_sh (e:TypeId) (r:Rows CV):cn (.sh e r)=.sh e (raw (cnRs r)):=by simp only [cn]
@[simp] theorem cn_any:cn .any=.any:=by simp only [cn]
@[simp] theorem cn_b (x:Bool):cn (.b x)=.b x:=by simp only [cn]
@[simp] theorem cn_n (k:IntKind) (x:Int):cn (.n k x)=.n k x:=by simp only [cn]
@[simp] theorem cn_s (x:ByteArray):cn (.s x)=.s x:=by simp only [cn]
@[simp] theorem cn_vl (v:Value):cn (.vl v)=.vl v:=by simp only [cn]
@[simp] theorem cnR_nil:cnR []=[]:=by simp only [cnR]
@[simp] theorem cnR_cons (x:CV) (xs:List CV):cnR (x::xs)=cn x::cnR xs:=by simp only [cnR]
@[simp] theorem fi_eI (xs:List Int):typ 0 (fun y=>[CV.n .i64 y]) xs=typ 0 eI xs:=rfl
@[simp] theorem fi_eS (xs:List ByteArray):typ ByteArray.empty (fun y=>[CV.s y]) xs=typ ByteArray.empty eS xs:=rfl
@[simp] theorem raw_iff {C:Type} {a b:List (List C)}:raw a=raw b↔a=b:=raw_inj
@[simp] theorem cnRs_raw (l:List (List CV)):cnRs (raw l)=l.map cnR:=by
 rw [cnRs_l,raw_l]
 exact List.map_congr_left fun x _=>(cnR_map x).symm
@[simp] theorem cnRs_nil:cnRs nilR=[]:=by rw [cnRs_l,nilR_l];rfl
@[simp] theorem cnRs_app (a b:Rows CV):cnRs (appR a b)=cnRs a++cnRs b:=by simp [cnRs_l,appR_l]
theorem cnRs_cut (a:Rows CV) {lo hi:Nat} (h:hi<=a.n):cnRs (cutR a lo hi)=((cnRs a).take hi).drop lo:=by
 rw [cnRs_l,cutR_l a h,cnRs_l,List.map_drop,List.map_take]
theorem cnRs_typ {α:Type} {d:α} {g:α->List CV} (xs:List α):cnRs (typ d g xs)=xs.map fun x=>cnR (g x):=by
 rw [cnRs_l,typ_l,List.map_map]
 exact List.map_congr_left fun x _=>(cnR_map _).symm
theorem frz_typ {α:Type} {d:α} {g h:α->List CV} (e:∀ x,frozenR (g x)=h x) (xs:List α):frozenRs (typ d g xs)=typ d h xs:=by
 simp only [typ,frozenRs,e]
@[simp] theorem frz_app (a b:Rows CV):frozenRs (appR a b)=appR (frozenRs a) (frozenRs b):=by
 obtain ⟨n,f⟩:=a;obtain ⟨m,g⟩:=b
 simp only [appR,frozenRs]
 refine congrArg _ (funext fun k=>?_)
 by_cases h:k<n<;>simp only [h,if_true,if_false]
@[simp] theorem frz_raw (l:List (List CV)):frozenRs (raw l)=raw (l.map frozenR):=by
 simp only [raw,frozenRs,List.length_map]
 refine congrArg _ (funext fun k=>?_)
 rw [List.getD_eq_getElem?_getD,List.getD_eq_getElem?_getD,List.getElem?_map]
 cases l[k]?<;>simp [frozenR]
@[simp] theorem frzR_nil:frozenR []=[]:=by simp only [frozenR]
@[simp] theorem frzR_cons (x:CV) (xs:List CV):frozenR (x::xs)=frozen x::frozenR xs:=by simp only [frozenR]
@[simp] theorem fr_ow (e:TypeId) (r:Rows CV):frozen (.ow e r)=.sh e (frozenRs r):=by simp only [frozen]
@[simp] theorem fr_sh (e:TypeId) (r:Rows CV):frozen (.sh e r)=.sh e r:=by simp only [frozen]
@[simp] theorem fr_b (x:Bool):frozen (.b x)=.b x:=by simp only [frozen]
@[simp] theorem fr_n (k:IntKind) (x:Int):frozen (.n k x)=.n k x:=by simp only [frozen]
@[simp] theorem fr_s (x:ByteArray):frozen (.s x)=.s x:=by simp only [frozen]
theorem map_iff {α β:Type} {g:α->β} (hg:∀ x y,g x=g y->x=y) {xs ys:List α}:xs.map g=ys.map g↔xs=ys :=
 ⟨fun h=>(List.map_inj_right hg).1 h,fun h=>by rw [h]⟩
def nI (x:Int):List CV:=[.n .i64 x]
def nS (x:ByteArray):List CV:=[.s x]
def nItemS (x:Item):List CV:=[.s x.key,.sh tI (raw (x.val.map nI))]
def nItemO (x:Item):List CV:=[.s x.key,.ow tI (raw (x.val.map nI))]
def nWrtS (x:Wrt):List CV:=[.s x.key,.b x.del,.sh tI (raw (x.val.map nI))]
def nWrtO (x:Wrt):List CV:=[.s x.key,.b x.del,.ow tI (raw (x.val.map nI))]
def nStoS (x:Sto):List CV:=[.sh tItem (raw (x.map nItemS))]
def nStoO (x:Sto):List CV:=[.ow tItem (raw (x.map nItemO))]
@[simp] theorem nI_d (x:Int):nI x=[.n .i64 x]:=rfl
@[simp] theorem nS_d (x:ByteArray):nS x=[.s x]:=rfl
@[simp] theorem nItemS_d (x:Item):nItemS x=[.s x.key,.sh tI (raw (x.val.map nI))]:=rfl
@[simp] theorem nItemO_d (x:Item):nItemO x=[.s x.key,.ow tI (raw (x.val.map nI))]:=rfl
@[simp] theorem nWrtS_d (x:Wrt):nWrtS x=[.s x.key,.b x.del,.sh tI (raw (x.val.map nI))]:=rfl
@[simp] theorem nWrtO_d (x:Wrt):nWrtO x=[.s x.key,.b x.del,.ow tI (raw (x.val.map nI))]:=rfl
@[simp] theorem nStoS_d (x:Sto):nStoS x=[.sh tItem (raw (x.map nItemS))]:=rfl
@[simp] theorem nStoO_d (x:Sto):nStoO x=[.ow tItem (raw (x.map nItemO))]:=rfl
@[simp] theorem nI_iff {xs ys:List Int}:xs.map nI=ys.map nI↔xs=ys:=map_iff fun x y h=>by simpa using h
@[simp] theorem nS_iff {xs ys:List ByteArray}:xs.map nS=ys.map nS↔xs=ys:=map_iff fun x y h=>by simpa using h
@[simp] theorem nItemS_iff {xs ys:List Item}:xs.map nItemS=ys.map nItemS↔xs=ys:=map_iff fun x y h=>by cases x;cases y;simpa using h
@[simp] theorem nItemO_iff {xs ys:List Item}:xs.map nItemO=ys.map nItemO↔xs=ys:=map_iff fun x y h=>by cases x;cases y;simpa using h
@[simp] theorem nWrtS_iff {xs ys:List Wrt}:xs.map nWrtS=ys.map nWrtS↔xs=ys:=map_iff fun x y h=>by cases x;cases y;simpa using h
@[simp] theorem nWrtO_iff {xs ys:List Wrt}:xs.map nWrtO=ys.map nWrtO↔xs=ys:=map_iff fun x y h=>by cases x;cases y;simpa using h
@[simp] theorem nStoS_iff {xs ys:List Sto}:xs.map nStoS=ys.map nStoS↔xs=ys:=map_iff fun x y h=>by simpa using h
@[simp] theorem nStoO_iff {xs ys:List Sto}:xs.map nStoO=ys.map nStoO↔xs=ys:=map_iff fun x y h=>by simpa using h
@[simp] theorem cI (xs:List Int):cnRs (typ 0 eI xs)=xs.map nI:=by rw [cnRs_typ];simp [eI,nI]
@[simp] theorem cS (xs:List ByteArray):cnRs (typ ByteArray.empty eS xs)=xs.map nS:=by rw [cnRs_typ];simp [eS,nS]
@[simp] theorem cItemS (xs:List Item):cnRs (typ dItem eItemS xs)=xs.map nItemS:=by rw [cnRs_typ];refine List.map_congr_left fun x _=>?_;simp [eItemS]
@[simp] theorem cItemO (xs:List Item):cnRs (typ dItem eItemO xs)=xs.map nItemO:=by rw [cnRs_typ];refine List.map_congr_left fun x _=>?_;simp [eItemO]
@[simp] theorem cWrtS (xs:List Wrt):cnRs (typ dWrt eWrtS xs)=xs.map nWrtS:=by rw [cnRs_typ];refine List.map_congr_left fun x _=>?_;simp [eWrtS]
@[simp] theorem cWrtO (xs:List Wrt):cnRs (typ dWrt eWrtO xs)=xs.map nWrtO:=by rw [cnRs_typ];refine List.map_congr_left fun x _=>?_;simp [eWrtO]
@[simp] theorem cStoS (xs:List Sto):cnRs (typ [] eStoS xs)=xs.map nStoS:=by rw [cnRs_typ];refine List.map_congr_left fun x _=>?_;simp [eStoS]
@[simp] theorem cStoO (xs:List Sto):cnRs (typ [] eStoO xs)=xs.map nStoO:=by rw [cnRs_typ];refine List.map_congr_left fun x _=>?_;simp [eStoO]
@[simp] theorem fI (xs:List Int):frozenRs (typ 0 eI xs)=typ 0 eI xs:=frz_typ (fun x=>by simp [eI]) xs
@[simp] theorem fS (xs:List ByteArray):frozenRs (typ ByteArray.empty eS xs)=typ ByteArray.empty eS xs:=frz_typ (fun x=>by simp [eS]) xs
@[simp] theorem fItemS (xs:List Item):frozenRs (typ dItem eItemS xs)=typ dItem eItemS xs:=frz_typ (fun x=>by simp [eItemS]) xs
@[simp] theorem fItemO (xs:List Item):frozenRs (typ dItem eItemO xs)=typ dItem eItemS xs:=frz_typ (fun x=>by simp [eItemS,eItemO]) xs
@[simp] theorem fWrtS (xs:List Wrt):frozenRs (typ dWrt eWrtS xs)=typ dWrt eWrtS xs:=frz_typ (fun x=>by simp [eWrtS]) xs
@[simp] theorem fWrtO (xs:List Wrt):frozenRs (typ dWrt eWrtO xs)=typ dWrt eWrtS xs:=frz_typ (fun x=>by simp [eWrtS,eWrtO]) xs
@[simp] theorem fStoS (xs:List Sto):frozenRs (typ [] eStoS xs)=typ [] eStoS xs:=frz_typ (fun x=>by simp [eStoS]) xs
@[simp] theorem fStoO (xs:List Sto):frozenRs (typ [] eStoO xs)=typ [] eStoS xs:=frz_typ (fun x=>by simp [eStoS,eStoO]) xs
theorem wrapN {x:Nat} (h:x+1<=9223372036854775807):IntKind.i64.wrap ((x:Int)+1)=((x+1:Nat):Int):=by
 rw [IntWalk.i64_in _ (by omega)];omega
theorem muN {n x:Nat} (h:x<n):n-(x+1)<n-x:=by omega
theorem getD_lt {α:Type} {xs:List α} {i:Nat} {d:α} (h:i<xs.length):xs.getD i d=xs[i]:=by simp [List.getD_eq_getElem?_getD,h]
theorem any_hit {α:Type} {xs:List α} {p:α->Bool} {d:α} {i:Nat} (h:i<xs.length) (hp:p (xs.getD i d)=true):xs.any p=true:=by
 rw [getD_lt h] at hp
 exact List.any_eq_true.2 ⟨_,List.getElem_mem h,hp⟩
theorem any_miss {α:Type} {xs:List α} {p:α->Bool} {d:α} (h:∀ j,j<xs.length->p (xs.getD j d)=false):xs.any p=false:=by
 refine List.any_eq_false.2 fun x hx=>?_
 obtain ⟨j,hj,rfl⟩:=List.getElem_of_mem hx
 have:=h j hj
 rw [getD_lt hj] at this
 simp [this]
theorem all_hit {α:Type} {xs:List α} {p:α->Bool} {d:α} {i:Nat} (h:i<xs.length) (hp:p (xs.getD i d)=false):xs.all p=false:=by
 rw [getD_lt h] at hp
 exact List.all_eq_false.2 ⟨_,List.getElem_mem h,by simp [hp]⟩
theorem all_miss {α:Type} {xs:List α} {p:α->Bool} {d:α} (h:∀ j,j<xs.length->p (xs.getD j d)=true):xs.all p=true:=by
 refine List.all_eq_true.2 fun x hx=>?_
 obtain ⟨j,hj,rfl⟩:=List.getElem_of_mem hx
 have:=h j hj
 rwa [getD_lt hj] at this
theorem below_succ {P:Nat->Prop} {i:Nat} (h:∀ j,j<i->P j) (hi:P i):∀ j,j<i+1->P j:=fun j hj=>by
 rcases Nat.lt_or_ge j i with h1 | h1
 ·exact h j h1
 ·obtain rfl:j=i:=by omega
  exact hi
theorem ext_getD {α:Type} {xs ys:List α} {d:α} (hl:xs.length=ys.length) (h:∀ j,j<xs.length->xs.getD j d=ys.getD j d):xs=ys:=by
 refine List.ext_getElem hl fun j h1 h2=>?_
 have:=h j h1
 rwa [getD_lt h1,getD_lt h2] at this
def dOpr:Opr:=⟨0,0,0,0,0,0,0⟩
theorem Opr_ext {a b:Opr} (h0:a.kind=b.kind) (h1:a.who=b.who) (h2:a.inn=b.inn) (h3:a.code=b.code) (h4:a.sec=b.sec) (h5:a.fam=b.fam) (h6:a.gen=b.gen):a=b:=by cases a;cases b;simp_all
instance:DecidableEq Opr:=fun a b=>decidable_of_iff (a.kind=b.kind/\a.who=b.who/\a.inn=b.inn/\a.code=b.code/\a.sec=b.sec/\a.fam=b.fam/\a.gen=b.gen) ⟨fun h=>by cases a;cases b;simp_all,fun h=>by subst h;simp⟩
def eOpr (x:Opr):List CV:=[.n .i64 x.kind,.n .i64 x.who,.n .i64 x.inn,.n .i64 x.code,.n .i64 x.sec,.n .i64 x.fam,.n .i64 x.gen]
def nOpr (x:Opr):List CV:=[.n .i64 x.kind,.n .i64 x.who,.n .i64 x.inn,.n .i64 x.code,.n .i64 x.sec,.n .i64 x.fam,.n .i64 x.gen]
@[simp] theorem nOpr_d (x:Opr):nOpr x=[.n .i64 x.kind,.n .i64 x.who,.n .i64 x.inn,.n .i64 x.code,.n .i64 x.sec,.n .i64 x.fam,.n .i64 x.gen]:=rfl
abbrev sOps (xs:List Opr):CV:=.sh tOp (typ dOpr eOpr xs)
abbrev oOps (xs:List Opr):CV:=.ow tOp (typ dOpr eOpr xs)
theorem Opr_inj (x y:Opr) (h:nOpr x=nOpr y):x=y:=by
 obtain ⟨_,_,_,_,_,_,_⟩:=x;obtain ⟨_,_,_,_,_,_,_⟩:=y;simp_all
@[simp] theorem nOpr_iff {xs ys:List Opr}:xs.map nOpr=ys.map nOpr↔xs=ys:=map_iff Opr_inj
@[simp] theorem cOpr (xs:List Opr):cnRs (typ dOpr eOpr xs)=xs.map nOpr:=by rw [cnRs_typ];refine List.map_congr_left fun x _=>?_;simp [eOpr]
@[simp] theorem fOpr (xs:List Opr):frozenRs (typ dOpr eOpr xs)=typ dOpr eOpr xs:=frz_typ (fun x=>by simp [eOpr]) xs
instance:DecidableEq Item:=fun a b=>decidable_of_iff (a.key=b.key/\a.val=b.val) ⟨fun ⟨h1,h2⟩=>by cases a;cases b;simp_all,fun h=>by rw [h];exact ⟨rfl,rfl⟩⟩
instance:DecidableEq Wrt:=fun a b=>decidable_of_iff (a.key=b.key/\a.del=b.del/\a.val=b.val) ⟨fun ⟨h1,h2,h3⟩=>by cases a;cases b;simp_all,fun h=>by rw [h];exact ⟨rfl,rfl,rfl⟩⟩
structure Note where
 kind:Int
 tx:Int
 locks:List ByteArray
 writes:List Wrt
def dNote:Note:=⟨0,0,[],[]⟩
instance:DecidableEq Note:=fun a b=>decidable_of_iff (a.kind=b.kind/\a.tx=b.tx/\a.locks=b.locks/\a.writes=b.writes) ⟨fun h=>by cases a;cases b;simp_all,fun h=>by subst h;simp⟩
def eNoteS (x:Note):List CV:=[.n .i64 x.kind,.n .i64 x.tx,sS x.locks,sWrts x.writes]
def nNoteS (x:Note):List CV:=[.n .i64 x.kind,.n .i64 x.tx,.sh tS (raw (x.locks.map nS)),.sh tWrt (raw (x.writes.map nWrtS))]
@[simp] theorem nNoteS_d (x:Note):nNoteS x=[.n .i64 x.kind,.n .i64 x.tx,.sh tS (raw (x.locks.map nS)),.sh tWrt (raw (x.writes.map nWrtS))]:=rfl
def eNoteO (x:Note):List CV:=[.n .i64 x.kind,.n .i64 x.tx,oS x.locks,oWrts x.writes]
def nNoteO (x:Note):List CV:=[.n .i64 x.kind,.n .i64 x.tx,.ow tS (raw (x.locks.map nS)),.ow tWrt (raw (x.writes.map nWrtO))]
@[simp] theorem nNoteO_d (x:Note):nNoteO x=[.n .i64 x.kind,.n .i64 x.tx,.ow tS (raw (x.locks.map nS)),.ow tWrt (raw (x.writes.map nWrtO))]:=rfl
abbrev sNotes (xs:List Note):CV:=.sh tNote (typ dNote eNoteS xs)
abbrev oNotes (xs:List Note):CV:=.ow tNote (typ dNote eNoteO xs)
theorem Note_injS (x y:Note) (h:nNoteS x=nNoteS y):x=y:=by
 obtain ⟨_,_,_,_⟩:=x;obtain ⟨_,_,_,_⟩:=y;simp_all
@[simp] theorem nNoteS_iff {xs ys:List Note}:xs.map nNoteS=ys.map nNoteS↔xs=ys:=map_iff Note_injS
@[simp] theorem cNoteS (xs:List Note):cnRs (typ dNote eNoteS xs)=xs.map nNoteS:=by rw [cnRs_typ];refine List.map_congr_left fun x _=>?_;simp [eNoteS]
theorem Note_injO (x y:Note) (h:nNoteO x=nNoteO y):x=y:=by
 obtain ⟨_,_,_,_⟩:=x;obtain ⟨_,_,_,_⟩:=y;simp_all
@[simp] theorem nNoteO_iff {xs ys:List Note}:xs.map nNoteO=ys.map nNoteO↔xs=ys:=map_iff Note_injO
@[simp] theorem cNoteO (xs:List Note):cnRs (typ dNote eNoteO xs)=xs.map nNoteO:=by rw [cnRs_typ];refine List.map_congr_left fun x _=>?_;simp [eNoteO]
@[simp] theorem fNoteS (xs:List Note):frozenRs (typ dNote eNoteS xs)=typ dNote eNoteS xs:=frz_typ (fun x=>by simp [eNoteS]) xs
@[simp] theorem fNoteO (xs:List Note):frozenRs (typ dNote eNoteO xs)=typ dNote eNoteS xs:=frz_typ (fun x=>by simp [eNoteS,eNoteO]) xs
abbrev cKNoteS (x:Note):List SC:=[.c (.n .i64 x.kind),.c (.n .i64 x.tx),.c (sS x.locks),.c (sWrts x.writes)]
abbrev kNoteS (x:Note):Ky:=⟨.agg,cKNoteS x,[]⟩
abbrev cKNoteO (x:Note):List SC:=[.c (.n .i64 x.kind),.c (.n .i64 x.tx),.c (oS x.locks),.c (oWrts x.writes)]
abbrev kNoteO (x:Note):Ky:=⟨.agg,cKNoteO x,[]⟩
structure Disk where
 notes:List Note
 safe:Int
def dDisk:Disk:=⟨[],0⟩
theorem Disk_ext {a b:Disk} (h0:a.notes=b.notes) (h1:a.safe=b.safe):a=b:=by cases a;cases b;simp_all
instance:DecidableEq Disk:=fun a b=>decidable_of_iff (a.notes=b.notes/\a.safe=b.safe) ⟨fun h=>by cases a;cases b;simp_all,fun h=>by subst h;simp⟩
def eDiskS (x:Disk):List CV:=[sNotes x.notes,.n .i64 x.safe]
def nDiskS (x:Disk):List CV:=[.sh tNote (raw (x.notes.map nNoteS)),.n .i64 x.safe]
@[simp] theorem nDiskS_d (x:Disk):nDiskS x=[.sh tNote (raw (x.notes.map nNoteS)),.n .i64 x.safe]:=rfl
def eDiskO (x:Disk):List CV:=[oNotes x.notes,.n .i64 x.safe]
def nDiskO (x:Disk):List CV:=[.ow tNote (raw (x.notes.map nNoteO)),.n .i64 x.safe]
@[simp] theorem nDiskO_d (x:Disk):nDiskO x=[.ow tNote (raw (x.notes.map nNoteO)),.n .i64 x.safe]:=rfl
abbrev sDisks (xs:List Disk):CV:=.sh tDisk (typ dDisk eDiskS xs)
abbrev oDisks (xs:List Disk):CV:=.ow tDisk (typ dDisk eDiskO xs)
abbrev mDisks (xs:List Disk):CV:=.ow tDisk (typ dDisk eDiskS xs)
theorem Disk_injS (x y:Disk) (h:nDiskS x=nDiskS y):x=y:=by
 obtain ⟨_,_⟩:=x;obtain ⟨_,_⟩:=y;simp_all
@[simp] theorem nDiskS_iff {xs ys:List Disk}:xs.map nDiskS=ys.map nDiskS↔xs=ys:=map_iff Disk_injS
@[simp] theorem cDiskS (xs:List Disk):cnRs (typ dDisk eDiskS xs)=xs.map nDiskS:=by rw [cnRs_typ];refine List.map_congr_left fun x _=>?_;simp [eDiskS]
theorem Disk_injO (x y:Disk) (h:nDiskO x=nDiskO y):x=y:=by
 obtain ⟨_,_⟩:=x;obtain ⟨_,_⟩:=y;simp_all
@[simp] theorem nDiskO_iff {xs ys:List Disk}:xs.map nDiskO=ys.map nDiskO↔xs=ys:=map_iff Disk_injO
@[simp] theorem cDiskO (xs:List Disk):cnRs (typ dDisk eDiskO xs)=xs.map nDiskO:=by rw [cnRs_typ];refine List.map_congr_left fun x _=>?_;simp [eDiskO]
@[simp] theorem fDiskS (xs:List Disk):frozenRs (typ dDisk eDiskS xs)=typ dDisk eDiskS xs:=frz_typ (fun x=>by simp [eDiskS]) xs
@[simp] theorem fDiskO (xs:List Disk):frozenRs (typ dDisk eDiskO xs)=typ dDisk eDiskS xs:=frz_typ (fun x=>by simp [eDiskS,eDiskO]) xs
abbrev cKDiskS (x:Disk):List SC:=[.c (sNotes x.notes),.c (.n .i64 x.safe)]
abbrev kDiskS (x:Disk):Ky:=⟨.agg,cKDiskS x,[]⟩
abbrev cKDiskO (x:Disk):List SC:=[.c (oNotes x.notes),.c (.n .i64 x.safe)]
abbrev kDiskO (x:Disk):Ky:=⟨.agg,cKDiskO x,[]⟩
structure Msg where
 kind:Int
 to:Int
 frm:Int
 tx:Int
 op:Opr
def dMsg:Msg:=⟨0,0,0,0,dOpr⟩
instance:DecidableEq Msg:=fun a b=>decidable_of_iff (a.kind=b.kind/\a.to=b.to/\a.frm=b.frm/\a.tx=b.tx/\a.op=b.op) ⟨fun h=>by cases a;cases b;simp_all,fun h=>by subst h;simp⟩
def eMsg (x:Msg):List CV:=[.n .i64 x.kind,.n .i64 x.to,.n .i64 x.frm,.n .i64 x.tx,.n .i64 x.op.kind,.n .i64 x.op.who,.n .i64 x.op.inn,.n .i64 x.op.code,.n .i64 x.op.sec,.n .i64 x.op.fam,.n .i64 x.op.gen]
def nMsg (x:Msg):List CV:=[.n .i64 x.kind,.n .i64 x.to,.n .i64 x.frm,.n .i64 x.tx,.n .i64 x.op.kind,.n .i64 x.op.who,.n .i64 x.op.inn,.n .i64 x.op.code,.n .i64 x.op.sec,.n .i64 x.op.fam,.n .i64 x.op.gen]
@[simp] theorem nMsg_d (x:Msg):nMsg x=[.n .i64 x.kind,.n .i64 x.to,.n .i64 x.frm,.n .i64 x.tx,.n .i64 x.op.kind,.n .i64 x.op.who,.n .i64 x.op.inn,.n .i64 x.op.code,.n .i64 x.op.sec,.n .i64 x.op.fam,.n .i64 x.op.gen]:=rfl
abbrev sMsgs (xs:List Msg):CV:=.sh tMsg (typ dMsg eMsg xs)
abbrev oMsgs (xs:List Msg):CV:=.ow tMsg (typ dMsg eMsg xs)
theorem Msg_inj (x y:Msg) (h:nMsg x=nMsg y):x=y:=by
 obtain ⟨_,_,_,_,⟨_,_,_,_,_,_,_⟩⟩:=x;obtain ⟨_,_,_,_,⟨_,_,_,_,_,_,_⟩⟩:=y;simp_all
@[simp] theorem nMsg_iff {xs ys:List Msg}:xs.map nMsg=ys.map nMsg↔xs=ys:=map_iff Msg_inj
@[simp] theorem cMsg (xs:List Msg):cnRs (typ dMsg eMsg xs)=xs.map nMsg:=by rw [cnRs_typ];refine List.map_congr_left fun x _=>?_;simp [eMsg]
@[simp] theorem fMsg (xs:List Msg):frozenRs (typ dMsg eMsg xs)=typ dMsg eMsg xs:=frz_typ (fun x=>by simp [eMsg]) xs
abbrev cKMsg (x:Msg):List SC:=[.c (.n .i64 x.kind),.c (.n .i64 x.to),.c (.n .i64 x.frm),.c (.n .i64 x.tx),.c (.n .i64 x.op.kind),.c (.n .i64 x.op.who),.c (.n .i64 x.op.inn),.c (.n .i64 x.op.code),.c (.n .i64 x.op.sec),.c (.n .i64 x.op.fam),.c (.n .i64 x.op.gen)]
abbrev kMsg (x:Msg):Ky:=⟨.agg,cKMsg x,[]⟩
structure FTx where
 tx:Int
 op:Opr
 yes:Bool
 can:List Int
 know:List Int
def dFTx:FTx:=⟨0,dOpr,false,[],[]⟩
instance:DecidableEq FTx:=fun a b=>decidable_of_iff (a.tx=b.tx/\a.op=b.op/\a.yes=b.yes/\a.can=b.can/\a.know=b.know) ⟨fun h=>by cases a;cases b;simp_all,fun h=>by subst h;simp⟩
def eFTxS (x:FTx):List CV:=[.n .i64 x.tx,.n .i64 x.op.kind,.n .i64 x.op.who,.n .i64 x.op.inn,.n .i64 x.op.code,.n .i64 x.op.sec,.n .i64 x.op.fam,.n .i64 x.op.gen,.b x.yes,sI x.can,sI x.know]
def nFTxS (x:FTx):List CV:=[.n .i64 x.tx,.n .i64 x.op.kind,.n .i64 x.op.who,.n .i64 x.op.inn,.n .i64 x.op.code,.n .i64 x.op.sec,.n .i64 x.op.fam,.n .i64 x.op.gen,.b x.yes,.sh tI (raw (x.can.map nI)),.sh tI (raw (x.know.map nI))]
@[simp] theorem nFTxS_d (x:FTx):nFTxS x=[.n .i64 x.tx,.n .i64 x.op.kind,.n .i64 x.op.who,.n .i64 x.op.inn,.n .i64 x.op.code,.n .i64 x.op.sec,.n .i64 x.op.fam,.n .i64 x.op.gen,.b x.yes,.sh tI (raw (x.can.map nI)),.sh tI (raw (x.know.map nI))]:=rfl
def eFTxO (x:FTx):List CV:=[.n .i64 x.tx,.n .i64 x.op.kind,.n .i64 x.op.who,.n .i64 x.op.inn,.n .i64 x.op.code,.n .i64 x.op.sec,.n .i64 x.op.fam,.n .i64 x.op.gen,.b x.yes,oI x.can,oI x.know]
def nFTxO (x:FTx):List CV:=[.n .i64 x.tx,.n .i64 x.op.kind,.n .i64 x.op.who,.n .i64 x.op.inn,.n .i64 x.op.code,.n .i64 x.op.sec,.n .i64 x.op.fam,.n .i64 x.op.gen,.b x.yes,.ow tI (raw (x.can.map nI)),.ow tI (raw (x.know.map nI))]
@[simp] theorem nFTxO_d (x:FTx):nFTxO x=[.n .i64 x.tx,.n .i64 x.op.kind,.n .i64 x.op.who,.n .i64 x.op.inn,.n .i64 x.op.code,.n .i64 x.op.sec,.n .i64 x.op.fam,.n .i64 x.op.gen,.b x.yes,.ow tI (raw (x.can.map nI)),.ow tI (raw (x.know.map nI))]:=rfl
abbrev sFTxs (xs:List FTx):CV:=.sh tFTx (typ dFTx eFTxS xs)
abbrev oFTxs (xs:List FTx):CV:=.ow tFTx (typ dFTx eFTxO xs)
abbrev mFTxs (xs:List FTx):CV:=.ow tFTx (typ dFTx eFTxS xs)
theorem FTx_injS (x y:FTx) (h:nFTxS x=nFTxS y):x=y:=by
 obtain ⟨_,⟨_,_,_,_,_,_,_⟩,_,_,_⟩:=x;obtain ⟨_,⟨_,_,_,_,_,_,_⟩,_,_,_⟩:=y;simp_all
@[simp] theorem nFTxS_iff {xs ys:List FTx}:xs.map nFTxS=ys.map nFTxS↔xs=ys:=map_iff FTx_injS
@[simp] theorem cFTxS (xs:List FTx):cnRs (typ dFTx eFTxS xs)=xs.map nFTxS:=by rw [cnRs_typ];refine List.map_congr_left fun x _=>?_;simp [eFTxS]
theorem FTx_injO (x y:FTx) (h:nFTxO x=nFTxO y):x=y:=by
 obtain ⟨_,⟨_,_,_,_,_,_,_⟩,_,_,_⟩:=x;obtain ⟨_,⟨_,_,_,_,_,_,_⟩,_,_,_⟩:=y;simp_all
@[simp] theorem nFTxO_iff {xs ys:List FTx}:xs.map nFTxO=ys.map nFTxO↔xs=ys:=map_iff FTx_injO
@[simp] theorem cFTxO (xs:List FTx):cnRs (typ dFTx eFTxO xs)=xs.map nFTxO:=by rw [cnRs_typ];refine List.map_congr_left fun x _=>?_;simp [eFTxO]
@[simp] theorem fFTxS (xs:List FTx):frozenRs (typ dFTx eFTxS xs)=typ dFTx eFTxS xs:=frz_typ (fun x=>by simp [eFTxS]) xs
@[simp] theorem fFTxO (xs:List FTx):frozenRs (typ dFTx eFTxO xs)=typ dFTx eFTxS xs:=frz_typ (fun x=>by simp [eFTxS,eFTxO]) xs
abbrev cKFTxS (x:FTx):List SC:=[.c (.n .i64 x.tx),.c (.n .i64 x.op.kind),.c (.n .i64 x.op.who),.c (.n .i64 x.op.inn),.c (.n .i64 x.op.code),.c (.n .i64 x.op.sec),.c (.n .i64 x.op.fam),.c (.n .i64 x.op.gen),.c (.b x.yes),.c (sI x.can),.c (sI x.know)]
abbrev kFTxS (x:FTx):Ky:=⟨.agg,cKFTxS x,[]⟩
structure Front where
 disk:Disk
 way:List FTx
theorem Front_ext {a b:Front} (h0:a.disk=b.disk) (h1:a.way=b.way):a=b:=by cases a;cases b;simp_all
instance:DecidableEq Front:=fun a b=>decidable_of_iff (a.disk=b.disk/\a.way=b.way) ⟨fun h=>by cases a;cases b;simp_all,fun h=>by subst h;simp⟩
abbrev cKFrontS (x:Front):List SC:=[.c (sNotes x.disk.notes),.c (.n .i64 x.disk.safe),.c (sFTxs x.way)]
abbrev kFrontS (x:Front):Ky:=⟨.agg,cKFrontS x,[]⟩
abbrev cKFrontO (x:Front):List SC:=[.c (oNotes x.disk.notes),.c (.n .i64 x.disk.safe),.c (oFTxs x.way)]
abbrev kFrontO (x:Front):Ky:=⟨.agg,cKFrontO x,[]⟩
structure FOut where
 tx:Int
 ok:Bool
def dFOut:FOut:=⟨0,false⟩
instance:DecidableEq FOut:=fun a b=>decidable_of_iff (a.tx=b.tx/\a.ok=b.ok) ⟨fun h=>by cases a;cases b;simp_all,fun h=>by subst h;simp⟩
def eFOut (x:FOut):List CV:=[.n .i64 x.tx,.b x.ok]
def nFOut (x:FOut):List CV:=[.n .i64 x.tx,.b x.ok]
@[simp] theorem nFOut_d (x:FOut):nFOut x=[.n .i64 x.tx,.b x.ok]:=rfl
abbrev sFOuts (xs:List FOut):CV:=.sh tFOut (typ dFOut eFOut xs)
abbrev oFOuts (xs:List FOut):CV:=.ow tFOut (typ dFOut eFOut xs)
theorem FOut_inj (x y:FOut) (h:nFOut x=nFOut y):x=y:=by
 obtain ⟨_,_⟩:=x;obtain ⟨_,_⟩:=y;simp_all
@[simp] theorem nFOut_iff {xs ys:List FOut}:xs.map nFOut=ys.map nFOut↔xs=ys:=map_iff FOut_inj
@[simp] theorem cFOut (xs:List FOut):cnRs (typ dFOut eFOut xs)=xs.map nFOut:=by rw [cnRs_typ];refine List.map_congr_left fun x _=>?_;simp [eFOut]
@[simp] theorem fFOut (xs:List FOut):frozenRs (typ dFOut eFOut xs)=typ dFOut eFOut xs:=frz_typ (fun x=>by simp [eFOut]) xs
structure Wld where
 front:Front
 disks:List Disk
 net:List Msg
 ops:List Opr
 outs:List FOut
instance:DecidableEq Wld:=fun a b=>decidable_of_iff (a.front=b.front/\a.disks=b.disks/\a.net=b.net/\a.ops=b.ops/\a.outs=b.outs) ⟨fun h=>by cases a;cases b;simp_all,fun h=>by subst h;simp⟩
abbrev cKWldS (x:Wld):List SC:=[.c (sNotes x.front.disk.notes),.c (.n .i64 x.front.disk.safe),.c (sFTxs x.front.way),.c (sDisks x.disks),.c (sMsgs x.net),.c (sOps x.ops),.c (sFOuts x.outs)]
abbrev kWldS (x:Wld):Ky:=⟨.agg,cKWldS x,[]⟩
abbrev cKWldO (x:Wld):List SC:=[.c (oNotes x.front.disk.notes),.c (.n .i64 x.front.disk.safe),.c (oFTxs x.front.way),.c (oDisks x.disks),.c (oMsgs x.net),.c (oOps x.ops),.c (oFOuts x.outs)]
abbrev kWldO (x:Wld):Ky:=⟨.agg,cKWldO x,[]⟩
structure Evt where
 kind:Int
 op:Opr
 at_:Int
 place:Int
 keep:Int
def dEvt:Evt:=⟨0,dOpr,0,0,0⟩
instance:DecidableEq Evt:=fun a b=>decidable_of_iff (a.kind=b.kind/\a.op=b.op/\a.at_=b.at_/\a.place=b.place/\a.keep=b.keep) ⟨fun h=>by cases a;cases b;simp_all,fun h=>by subst h;simp⟩
def eEvt (x:Evt):List CV:=[.n .i64 x.kind,.n .i64 x.op.kind,.n .i64 x.op.who,.n .i64 x.op.inn,.n .i64 x.op.code,.n .i64 x.op.sec,.n .i64 x.op.fam,.n .i64 x.op.gen,.n .i64 x.at_,.n .i64 x.place,.n .i64 x.keep]
def nEvt (x:Evt):List CV:=[.n .i64 x.kind,.n .i64 x.op.kind,.n .i64 x.op.who,.n .i64 x.op.inn,.n .i64 x.op.code,.n .i64 x.op.sec,.n .i64 x.op.fam,.n .i64 x.op.gen,.n .i64 x.at_,.n .i64 x.place,.n .i64 x.keep]
@[simp] theorem nEvt_d (x:Evt):nEvt x=[.n .i64 x.kind,.n .i64 x.op.kind,.n .i64 x.op.who,.n .i64 x.op.inn,.n .i64 x.op.code,.n .i64 x.op.sec,.n .i64 x.op.fam,.n .i64 x.op.gen,.n .i64 x.at_,.n .i64 x.place,.n .i64 x.keep]:=rfl
abbrev oEvts (xs:List Evt):CV:=.ow tEvt (typ dEvt eEvt xs)
theorem Evt_inj (x y:Evt) (h:nEvt x=nEvt y):x=y:=by
 obtain ⟨_,⟨_,_,_,_,_,_,_⟩,_,_,_⟩:=x;obtain ⟨_,⟨_,_,_,_,_,_,_⟩,_,_,_⟩:=y;simp_all
@[simp] theorem nEvt_iff {xs ys:List Evt}:xs.map nEvt=ys.map nEvt↔xs=ys:=map_iff Evt_inj
@[simp] theorem cEvt (xs:List Evt):cnRs (typ dEvt eEvt xs)=xs.map nEvt:=by rw [cnRs_typ];refine List.map_congr_left fun x _=>?_;simp [eEvt]
@[simp] theorem fEvt (xs:List Evt):frozenRs (typ dEvt eEvt xs)=typ dEvt eEvt xs:=frz_typ (fun x=>by simp [eEvt]) xs
abbrev cKEvt (x:Evt):List SC:=[.c (.n .i64 x.kind),.c (.n .i64 x.op.kind),.c (.n .i64 x.op.who),.c (.n .i64 x.op.inn),.c (.n .i64 x.op.code),.c (.n .i64 x.op.sec),.c (.n .i64 x.op.fam),.c (.n .i64 x.op.gen),.c (.n .i64 x.at_),.c (.n .i64 x.place),.c (.n .i64 x.keep)]
abbrev kEvt (x:Evt):Ky:=⟨.agg,cKEvt x,[]⟩
theorem Item_ex {a0:ByteArray} {a1:List Int} {P:Item->Prop}:(∃ b:Item,a0=b.key/\a1=b.val/\P b)↔P (Item.mk a0 a1):=⟨fun ⟨b,h⟩=>by obtain ⟨rfl,rfl,h⟩:=h;exact h,fun h=>⟨_,rfl,rfl,h⟩⟩
theorem Item_eta (x:Item):Item.mk x.key x.val=x:=rfl
theorem Wrt_ex {a0:ByteArray} {a1:Bool} {a2:List Int} {P:Wrt->Prop}:(∃ b:Wrt,a0=b.key/\a1=b.del/\a2=b.val/\P b)↔P (Wrt.mk a0 a1 a2):=⟨fun ⟨b,h⟩=>by obtain ⟨rfl,rfl,rfl,h⟩:=h;exact h,fun h=>⟨_,rfl,rfl,rfl,h⟩⟩
theorem Wrt_eta (x:Wrt):Wrt.mk x.key x.del x.val=x:=rfl
theorem Opr_ex {a0:Int} {a1:Int} {a2:Int} {a3:Int} {a4:Int} {a5:Int} {a6:Int} {P:Opr->Prop}:(∃ b:Opr,a0=b.kind/\a1=b.who/\a2=b.inn/\a3=b.code/\a4=b.sec/\a5=b.fam/\a6=b.gen/\P b)↔P (Opr.mk a0 a1 a2 a3 a4 a5 a6):=⟨fun ⟨b,h⟩=>by obtain ⟨rfl,rfl,rfl,rfl,rfl,rfl,rfl,h⟩:=h;exact h,fun h=>⟨_,rfl,rfl,rfl,rfl,rfl,rfl,rfl,h⟩⟩
theorem Opr_eta (x:Opr):Opr.mk x.kind x.who x.inn x.code x.sec x.fam x.gen=x:=rfl
theorem Plan_ex {a0:Bool} {a1:List ByteArray} {a2:List Wrt} {P:Plan->Prop}:(∃ b:Plan,a0=b.ok/\a1=b.locks/\a2=b.writes/\P b)↔P (Plan.mk a0 a1 a2):=⟨fun ⟨b,h⟩=>by obtain ⟨rfl,rfl,rfl,h⟩:=h;exact h,fun h=>⟨_,rfl,rfl,rfl,h⟩⟩
theorem Plan_eta (x:Plan):Plan.mk x.ok x.locks x.writes=x:=rfl
theorem Note_ex {a0:Int} {a1:Int} {a2:List ByteArray} {a3:List Wrt} {P:Note->Prop}:(∃ b:Note,a0=b.kind/\a1=b.tx/\a2=b.locks/\a3=b.writes/\P b)↔P (Note.mk a0 a1 a2 a3):=⟨fun ⟨b,h⟩=>by obtain ⟨rfl,rfl,rfl,rfl,h⟩:=h;exact h,fun h=>⟨_,rfl,rfl,rfl,rfl,h⟩⟩
theorem Note_eta (x:Note):Note.mk x.kind x.tx x.locks x.writes=x:=rfl
theorem Disk_ex {a0:List Note} {a1:Int} {P:Disk->Prop}:(∃ b:Disk,a0=b.notes/\a1=b.safe/\P b)↔P (Disk.mk a0 a1):=⟨fun ⟨b,h⟩=>by obtain ⟨rfl,rfl,h⟩:=h;exact h,fun h=>⟨_,rfl,rfl,h⟩⟩
theorem Disk_eta (x:Disk):Disk.mk x.notes x.safe=x:=rfl
theorem Msg_ex {a0:Int} {a1:Int} {a2:Int} {a3:Int} {a4:Int} {a5:Int} {a6:Int} {a7:Int} {a8:Int} {a9:Int} {a10:Int} {P:Msg->Prop}:(∃ b:Msg,a0=b.kind/\a1=b.to/\a2=b.frm/\a3=b.tx/\a4=b.op.kind/\a5=b.op.who/\a6=b.op.inn/\a7=b.op.code/\a8=b.op.sec/\a9=b.op.fam/\a10=b.op.gen/\P b)↔P (Msg.mk a0 a1 a2 a3 (Opr.mk a4 a5 a6 a7 a8 a9 a10)):=⟨fun ⟨b,h⟩=>by obtain ⟨rfl,rfl,rfl,rfl,rfl,rfl,rfl,rfl,rfl,rfl,rfl,h⟩:=h;exact h,fun h=>⟨_,rfl,rfl,rfl,rfl,rfl,rfl,rfl,rfl,rfl,rfl,rfl,h⟩⟩
theorem Msg_eta (x:Msg):Msg.mk x.kind x.to x.frm x.tx x.op=x:=rfl
theorem FTx_ex {a0:Int} {a1:Int} {a2:Int} {a3:Int} {a4:Int} {a5:Int} {a6:Int} {a7:Int} {a8:Bool} {a9:List Int} {a10:List Int} {P:FTx->Prop}:(∃ b:FTx,a0=b.tx/\a1=b.op.kind/\a2=b.op.who/\a3=b.op.inn/\a4=b.op.code/\a5=b.op.sec/\a6=b.op.fam/\a7=b.op.gen/\a8=b.yes/\a9=b.can/\a10=b.know/\P b)↔P (FTx.mk a0 (Opr.mk a1 a2 a3 a4 a5 a6 a7) a8 a9 a10):=⟨fun ⟨b,h⟩=>by obtain ⟨rfl,rfl,rfl,rfl,rfl,rfl,rfl,rfl,rfl,rfl,rfl,h⟩:=h;exact h,fun h=>⟨_,rfl,rfl,rfl,rfl,rfl,rfl,rfl,rfl,rfl,rfl,rfl,h⟩⟩
theorem FTx_eta (x:FTx):FTx.mk x.tx x.op x.yes x.can x.know=x:=rfl
theorem Front_ex {a0:List Note} {a1:Int} {a2:List FTx} {P:Front->Prop}:(∃ b:Front,a0=b.disk.notes/\a1=b.disk.safe/\a2=b.way/\P b)↔P (Front.mk (Disk.mk a0 a1) a2):=⟨fun ⟨b,h⟩=>by obtain ⟨rfl,rfl,rfl,h⟩:=h;exact h,fun h=>⟨_,rfl,rfl,rfl,h⟩⟩
theorem Front_eta (x:Front):Front.mk x.disk x.way=x:=rfl
theorem FOut_ex {a0:Int} {a1:Bool} {P:FOut->Prop}:(∃ b:FOut,a0=b.tx/\a1=b.ok/\P b)↔P (FOut.mk a0 a1):=⟨fun ⟨b,h⟩=>by obtain ⟨rfl,rfl,h⟩:=h;exact h,fun h=>⟨_,rfl,rfl,h⟩⟩
theorem FOut_eta (x:FOut):FOut.mk x.tx x.ok=x:=rfl
theorem Wld_ex {a0:List Note} {a1:Int} {a2:List FTx} {a3:List Disk} {a4:List Msg} {a5:List Opr} {a6:List FOut} {P:Wld->Prop}:(∃ b:Wld,a0=b.front.disk.notes/\a1=b.front.disk.safe/\a2=b.front.way/\a3=b.disks/\a4=b.net/\a5=b.ops/\a6=b.outs/\P b)↔P (Wld.mk (Front.mk (Disk.mk a0 a1) a2) a3 a4 a5 a6):=⟨fun ⟨b,h⟩=>by obtain ⟨rfl,rfl,rfl,rfl,rfl,rfl,rfl,h⟩:=h;exact h,fun h=>⟨_,rfl,rfl,rfl,rfl,rfl,rfl,rfl,h⟩⟩
theorem Wld_eta (x:Wld):Wld.mk x.front x.disks x.net x.ops x.outs=x:=rfl
theorem Evt_ex {a0:Int} {a1:Int} {a2:Int} {a3:Int} {a4:Int} {a5:Int} {a6:Int} {a7:Int} {a8:Int} {a9:Int} {a10:Int} {P:Evt->Prop}:(∃ b:Evt,a0=b.kind/\a1=b.op.kind/\a2=b.op.who/\a3=b.op.inn/\a4=b.op.code/\a5=b.op.sec/\a6=b.op.fam/\a7=b.op.gen/\a8=b.at_/\a9=b.place/\a10=b.keep/\P b)↔P (Evt.mk a0 (Opr.mk a1 a2 a3 a4 a5 a6 a7) a8 a9 a10):=⟨fun ⟨b,h⟩=>by obtain ⟨rfl,rfl,rfl,rfl,rfl,rfl,rfl,rfl,rfl,rfl,rfl,h⟩:=h;exact h,fun h=>⟨_,rfl,rfl,rfl,rfl,rfl,rfl,rfl,rfl,rfl,rfl,rfl,h⟩⟩
theorem Evt_eta (x:Evt):Evt.mk x.kind x.op x.at_ x.place x.keep=x:=rfl
abbrev t_I (x:List Int):=cnRs (typ (0:Int) eI x)
abbrev t_a (x:List Item):=cnRs (typ dItem eItemS x)
abbrev t_b (x:List Item):=cnRs (typ dItem eItemO x)
abbrev t_c (x:List Wrt):=cnRs (typ dWrt eWrtS x)
abbrev t_S (x:List ByteArray):=cnRs (typ ByteArray.empty eS x)
abbrev t_d (x:List Wrt):=cnRs (typ dWrt eWrtO x)
abbrev t_e (x:List Note):=cnRs (typ dNote eNoteS x)
abbrev t_f (x:List Note):=cnRs (typ dNote eNoteO x)
abbrev t_g (x:List Msg):=cnRs (typ dMsg eMsg x)
abbrev t_h (x:List FTx):=cnRs (typ dFTx eFTxS x)
abbrev t_j (x:List FTx):=cnRs (typ dFTx eFTxO x)
abbrev t_k (x:List FOut):=cnRs (typ dFOut eFOut x)
abbrev t_l (x:List Disk):=cnRs (typ dDisk eDiskS x)
abbrev t_m (x:List Opr):=cnRs (typ dOpr eOpr x)
abbrev t_n (x:List Disk):=cnRs (typ dDisk eDiskO x)
abbrev t_o (x:List Evt):=cnRs (typ dEvt eEvt x)
abbrev i_0:Int:=0
abbrev i_9:Int:=9
abbrev i_99:Int:=99
abbrev i_1:Int:=1
abbrev i_5:Int:=5
abbrev i_2:Int:=2
abbrev i_3:Int:=3
abbrev i_4:Int:=4
abbrev wr_ (n:Int):Int:=IntKind.i64.wrap n
abbrev g_Int (x:List Int) (k:Nat):Int:=x.getD (k:Int).toNat (0:Int)
abbrev zi (n:Nat):Int:=(n:Int)
abbrev i_9999:Int:=9999
abbrev i_97:Int:=97
abbrev i_122:Int:=122
abbrev i_48:Int:=48
abbrev i_57:Int:=57
abbrev i_40:Int:=40
abbrev n_0:Nat:=0
abbrev n_8:Nat:=8
abbrev n_140737488355328:Nat:=140737488355328
abbrev n_1:Nat:=1
abbrev n_40:Nat:=40
abbrev n_3:Nat:=3
abbrev y_1:Type:=List Item×Bool×Nat
abbrev g_Wrt (x:List Wrt) (k:Nat):Wrt:=x.getD (k:Int).toNat dWrt
abbrev n_1000:Nat:=1000
abbrev y_2:Type:=List Item×List Item×Nat
abbrev i_10:Int:=10
abbrev n_9223372036854775807:Nat:=9223372036854775807
abbrev i_9973:Int:=9973
abbrev i_7919:Int:=7919
abbrev i_104:Int:=104
abbrev cn_ (x:Int):CV:=CV.n .i64 x
abbrev n_16:Nat:=16
abbrev n_10:Nat:=10
abbrev n_2:Nat:=2
abbrev i_102:Int:=102
abbrev n_48:Nat:=48
abbrev y_3:Type:=List ByteArray×List Wrt×Nat
abbrev i_115:Int:=115
abbrev y_4:Type:=Nat×ByteArray×List Int×Int×Int×Int×Bool
abbrev y_5:Type:=Nat×ByteArray×List Int×Int×Bool
abbrev i_1000000:Int:=1000000
abbrev i_2000:Int:=2000
abbrev n_2000:Nat:=2000
abbrev i_7:Int:=7
abbrev i_64:Int:=64
abbrev i_131:Int:=131
abbrev i_1117:Int:=1117
abbrev i_29:Int:=29
abbrev i_53:Int:=53
abbrev y_6:Type:=List Int×Nat×Int
abbrev i_6:Int:=6
abbrev i_100:Int:=100
abbrev y_7:Type:=List Int×Nat×Int×Int×Int×Int×Int×Int×Int
abbrev i_12:Int:=12
abbrev n_4:Nat:=4
abbrev i_10000:Int:=10000
abbrev y_8:Type:=List Int×Nat×List Int×Int×Int
abbrev n_5:Nat:=5
abbrev i_30:Int:=30
abbrev n_6:Nat:=6
abbrev n_13:Nat:=13
abbrev y_9:Type:=List Int×Nat×List Wrt×Int
abbrev n_150:Nat:=150
abbrev g_ByteArray (x:List ByteArray) (k:Nat):ByteArray:=x.getD (k:Int).toNat ByteArray.empty
abbrev y_10:Type:=List Int×List Int
abbrev y_11:Type:=List ByteArray×ByteArray
abbrev g_Note (x:List Note) (k:Nat):Note:=x.getD (k:Int).toNat dNote
abbrev i_120:Int:=120
abbrev n_64:Nat:=64
abbrev n_9:Nat:=9
abbrev n_102:Nat:=102
abbrev y_12:Type:=List ByteArray×Nat
abbrev y_13:Type:=List ByteArray×Nat×Int×Int×List ByteArray×List Wrt×Nat
abbrev y_14:Type:=Int×Int×List ByteArray×List Wrt×Int
abbrev y_15:Type:=Int×Sto×Int×Opr
abbrev y_16:Type:=List ByteArray×List ByteArray
abbrev y_17:Type:=Bool×List ByteArray×List Wrt×Bool
abbrev y_18:Type:=Disk×Note×Bool
abbrev n_88:Nat:=88
abbrev g_FTx (x:List FTx) (k:Nat):FTx:=x.getD (k:Int).toNat dFTx
abbrev y_19:Type:=List Int×Bool×Nat
abbrev y_20:Type:=Int×Int×Opr×List Int
abbrev n_120:Nat:=120
abbrev y_21:Type:=Nat×Int×Int×Int×Int×Int×Int×Int×Int×Bool×List Int×List Int×Bool
abbrev y_22:Type:=List Note×Int×List FTx×Nat
abbrev y_23:Type:=List Note×Int×List FTx×Nat×Bool×Nat
abbrev g_Msg (x:List Msg) (k:Nat):Msg:=x.getD (k:Int).toNat dMsg
abbrev i_60:Int:=60
abbrev g_FOut (x:List FOut) (k:Nat):FOut:=x.getD (k:Int).toNat dFOut
abbrev n_107:Nat:=107
abbrev g_Disk (x:List Disk) (k:Nat):Disk:=x.getD (k:Int).toNat dDisk
abbrev n_56:Nat:=56
abbrev n_32:Nat:=32
abbrev n_153:Nat:=153
abbrev n_113:Nat:=113
abbrev n_80:Nat:=80
abbrev y_24:Type:=List Int×Nat×Int×Int×List ByteArray×List Wrt×Nat
abbrev y_25:Type:=List Int×Nat×Int×Int×List ByteArray×List Wrt
abbrev i_16:Int:=16
abbrev n_20:Nat:=20
abbrev y_28:Type:=List Int×Nat×List Note×Int×List FTx×List Disk×List Msg×List Opr×List FOut×List Evt×Int
abbrev y_29:Type:=List Int×Nat×Nat×Nat
abbrev y_30:Type:=List Int×Nat×List Note×Int×Int
abbrev y_31:Type:=List Int×Nat×List Note×Int
abbrev y_32:Type:=List Wrt×List Wrt
abbrev y_33:Type:=List Note×List Note
abbrev i_50:Int:=50
abbrev n_1400:Nat:=1400
abbrev n_70:Nat:=70
abbrev n_69:Nat:=69
abbrev n_4000:Nat:=4000
abbrev i_1048576:Int:=1048576
abbrev q_I (x y:List Int):Prop:=t_I x=t_I y
abbrev q_a (x y:List Item):Prop:=t_a x=t_a y
abbrev q_b (x y:List Item):Prop:=t_b x=t_b y
abbrev q_c (x y:List Wrt):Prop:=t_c x=t_c y
abbrev q_S (x y:List ByteArray):Prop:=t_S x=t_S y
abbrev q_d (x y:List Wrt):Prop:=t_d x=t_d y
abbrev q_e (x y:List Note):Prop:=t_e x=t_e y
abbrev q_f (x y:List Note):Prop:=t_f x=t_f y
abbrev q_g (x y:List Msg):Prop:=t_g x=t_g y
abbrev q_h (x y:List FTx):Prop:=t_h x=t_h y
abbrev q_j (x y:List FTx):Prop:=t_j x=t_j y
abbrev q_k (x y:List FOut):Prop:=t_k x=t_k y
abbrev q_l (x y:List Disk):Prop:=t_l x=t_l y
abbrev q_m (x y:List Opr):Prop:=t_m x=t_m y
abbrev q_n (x y:List Disk):Prop:=t_n x=t_n y
abbrev q_o (x y:List Evt):Prop:=t_o x=t_o y
set_option linter.defProp false in
def zzb:=And.intro @wayEq_self (And.intro @fS (And.intro @cS (And.intro @nS_iff (And.intro @Item_ex (And.intro @Item_eta (And.intro @Wrt_ex (And.intro @Wrt_eta (And.intro @Opr_ex (And.intro @Opr_eta (And.intro @Plan_ex (And.intro @Plan_eta (And.intro @Note_ex (And.intro @Note_eta (And.intro @Disk_ex (And.intro @Disk_eta (And.intro @Msg_ex (And.intro @Msg_eta (And.intro @FTx_ex (And.intro @FTx_eta (And.intro @Front_ex (And.intro @Front_eta (And.intro @FOut_ex (And.intro @FOut_eta (And.intro @Wld_ex (And.intro @Wld_eta (And.intro @Evt_ex (And.intro @Evt_eta (And.intro @cNoteO (And.intro @cNoteS (And.intro @nNoteO_iff (And.intro @nNoteS_iff (And.intro @fNoteO (And.intro @fNoteS (And.intro @cDiskO (And.intro @cDiskS (And.intro @nDiskO_iff (And.intro @nDiskS_iff (And.intro @fDiskO (And.intro @fDiskS (And.intro @cFTxO (And.intro @cFTxS (And.intro @nFTxO_iff (And.intro @nFTxS_iff (And.intro @fFTxO (And.intro @fFTxS (And.intro @cMsg (And.intro @nMsg_iff (And.intro @fMsg (And.intro @cFOut (And.intro @nFOut_iff (And.intro @fFOut (And.intro @cEvt (And.intro @nEvt_iff (And.intro @fEvt (And.intro @cOpr (And.intro @nOpr_iff (@fOpr)))))))))))))))))))))))))))))))))))))))))))))))))))))))))
end Go.Proofs.AI
namespace Go.Proofs.AI
open Go.RowKit Go.Proofs
set_option linter.unusedVariables false
set_option linter.unusedSimpArgs false
set_option maxRecDepth 100000
def eqB (x y:ByteArray):Bool:=x.toList==y.toList
def inR (x y z:Int):Bool:=decide (y<=x)&&decide (x<=z)
def opOk (o:Opr):Bool:=inR o.who 0 9&&inR o.inn 0 9&&inR o.code 0 9&&inR o.sec 0 99&&inR o.fam 0 9&&inR o.gen 0 99 &&
 (((o.kind==1||o.kind==5)&&o.code==0&&o.sec==0&&o.fam==0&&o.gen==0)||(o.kind==2&&o.fam==0&&o.gen==0)||(o.kind==3&&o.who==0&&o.inn==0&&o.gen==0)||(o.kind==4&&o.who==0&&o.inn==0&&o.code==0&&o.sec==0))
def valB (xs:List Int):Bool:=xs.all (inR · 0 9999)&&inR xs.length 1 3
def dig (s:ByteArray) (i:Nat):Bool:=inR (byteAt s i) 48 57
def keyB (s:ByteArray):Bool:=inR s.size 2 3&&inR (byteAt s 0) 97 122&&(List.range s.size).all fun i=>i==0||dig s i
theorem spec_l1In_ok (x:Int) (y:Int) (z:Int):FunOK Tryz.prog 63 3 [] [(0,kI x),(1,kI y),(2,kI z)] (·=[(3,kB (inR x y z))]):=by
 refine fun_to (E:=⟨tab,ctOf [],15,[],[(0,[0,1,2]),(1,[6])],[],[],[],[]⟩) tab_ok mixed Tryz.func63 rfl Tryz.ntmps63 (rvs:=[.tmp 6]) Tryz.results63 rfl fun hl=>?_
 refine cast (show ((decide (x≥y)=true->decide (x<=z)=inR x y z)/\(decide (x≥y)=false->false=inR x y z))=_ by kernel_rfl) ?_
 refine ⟨fun h=>?_,fun h=>?_⟩<;>simp_all [inR]<;>omega
def spec_l1In_c:Con Tryz.prog:=con0 [.lend,.lend,.lend] fun b:Int×Int×Int=>spec_l1In_ok (b.1) (b.2.1) (b.2.2)
theorem spec_OpOk_ok (o:Opr):FunOK Tryz.prog 64 1 [] [(0,kOp o)] (·=[(1,kB (opOk o))]):=by
 refine fun_to (E:=⟨tab,ctOf [spec_l1In_c],105,[],[(0,[1]),(1,[1,36]),(2,[2]),(3,[1,38]),(4,[1,38,39]),(5,[1,38,39]),(6,[2]),(7,[1,38,60]),(8,[2]),(9,[1,38,70]),(10,[2]),(11,[1,85]),(12,[2]),(13,[2])],[],[],[],[]⟩) tab_ok mixed Tryz.func64 rfl Tryz.ntmps64 (rvs:=[.tmp 2]) Tryz.results64 rfl fun hl=>?_
 refine cast (show (let k_5:Prop:=(o.inn==i_0)=false->false=opOk o;let k_4:Prop:=(o.who==i_0)=false->false=opOk o;let k_3:Prop:=(o.code==i_0)=false->false=opOk o;let k_2:Prop:=((o.fam==i_0)=true->(o.gen==i_0)=opOk o)/\((o.fam==i_0)=false->false=opOk o);let k_1:Prop:=((o.code==i_0)=true->((o.sec==i_0)=true->k_2)/\((o.sec==i_0)=false->false=opOk o))/\k_3;∃ (b:Int×Int×Int),(o.who=b.1/\i_0=b.2.1/\i_9=b.2.2)/\((!inR b.1 b.2.1 b.2.2)=false->∃ (b:Int×Int×Int),(o.inn=b.1/\i_0=b.2.1/\i_9=b.2.2)/\((!inR b.1 b.2.1 b.2.2)=false->∃ (b:Int×Int×Int),(o.code=b.1/\i_0=b.2.1/\i_9=b.2.2)/\((!inR b.1 b.2.1 b.2.2)=false->∃ (b:Int×Int×Int),(o.sec=b.1/\i_0=b.2.1/\i_99=b.2.2)/\((!inR b.1 b.2.1 b.2.2)=false->∃ (b:Int×Int×Int),(o.fam=b.1/\i_0=b.2.1/\i_9=b.2.2)/\((!inR b.1 b.2.1 b.2.2)=false->∃ (b:Int×Int×Int),(o.gen=b.1/\i_0=b.2.1/\i_99=b.2.2)/\((!inR b.1 b.2.1 b.2.2)=true->false=opOk o)/\((!inR b.1 b.2.1 b.2.2)=false->((o.kind==i_1)=true->k_1)/\((o.kind==i_1)=false->((o.kind==i_5)=true->k_1)/\((o.kind==i_5)=false->((o.kind==i_2)=true->k_2)/\((o.kind==i_2)=false->((o.kind==i_3)=true->((o.who==i_0)=true->((o.inn==i_0)=true->(o.gen==i_0)=opOk o)/\k_5)/\k_4)/\((o.kind==i_3)=false->((o.kind==i_4)=true->((o.who==i_0)=true->((o.inn==i_0)=true->((o.code==i_0)=true->(o.sec==i_0)=opOk o)/\k_3)/\k_5)/\k_4)/\((o.kind==i_4)=false->false=opOk o)))))))/\((!inR b.1 b.2.1 b.2.2)=true->false=opOk o))/\((!inR b.1 b.2.1 b.2.2)=true->false=opOk o))/\((!inR b.1 b.2.1 b.2.2)=true->false=opOk o))/\((!inR b.1 b.2.1 b.2.2)=true->false=opOk o))/\((!inR b.1 b.2.1 b.2.2)=true->false=opOk o))=_ by kernel_rfl) ?_
 delta i_0 i_9 i_99 i_1 i_5 i_2 i_3 i_4
 simp only [Prod.exists,and_assoc,exists_eq_left',exists_eq_left,exists_and_left]
 repeat' (first | apply And.intro | intro)
 all_goals (simp_all [opOk])
def spec_OpOk_c:Con Tryz.prog:=con0 [.lend] fun b:Opr=>spec_OpOk_ok b
theorem laws_jaInts_ok (xs:List Int) (ys:List Int):FunOK Tryz.prog 34 2 [] [(0,k1 (sI xs)),(1,k1 (sI ys))] (·=[(2,kB (decide (xs=ys)))]):=by
 refine fun_to (E:=⟨tab,ctOf [],26,[],[(0,[0,1]),(1,[0,1,10]),(2,[4]),(3,[0,1,5]),(4,[0,1,5,14]),(5,[0,1,5]),(6,[0,1,5,25]),(7,[4]),(8,[4])],[(0,⟨Nat,fun x=>[(0,(k1 (.sh 3 (typ (0:Int) eI xs)))),(1,(k1 (.sh 3 (typ (0:Int) eI ys)))),(5,(k1 (.n .i64 (x:Int))))]⟩)],[],[],[]⟩) tab_ok mixed Tryz.func34 rfl Tryz.ntmps34 (rvs:=[.tmp 4]) Tryz.results34 rfl fun hl=>?_
 refine cast (show ((((zi xs.length) != zi ys.length)=true->false=decide (xs=ys))/\(((zi xs.length) != zi ys.length)=false->∃ (pre:Nat->Prop),∃ (μ:Nat->Nat),∃ (x0:Nat),(q_I xs xs/\q_I ys ys/\i_0=zi x0)/\pre x0/\∀ (x:Nat),pre x->(decide (zi x<zi xs.length)=true->(i_0<=zi x/\zi x<zi xs.length)/\(i_0<=zi x/\zi x<zi ys.length)/\((g_Int xs x != g_Int ys x)=true->false=decide (xs=ys))/\((g_Int xs x != g_Int ys x)=false->∃ (y:Nat),(q_I xs xs/\q_I ys ys/\wr_ ((zi x)+i_1)=zi y)/\pre y/\μ y<μ x))/\(decide (zi x<zi xs.length)=false->true=decide (xs=ys))))=_ by kernel_rfl) ?_
 delta i_0 i_1 wr_ g_Int zi t_I q_I
 have hx:xs.length<=9223372036854775807:=hl.1 _ (List.mem_singleton.2 rfl)
 refine ⟨fun h=>?_,fun h=>⟨fun i=>i<=xs.length/\∀ j,j<i->xs.getD j 0=ys.getD j 0,fun i=>xs.length-i,0,by simp,by simp,fun x hp=>?_⟩⟩
 ·simp only [bne_iff_ne,ne_eq] at h
  exact (decide_eq_false fun he=>h (by rw [he])).symm
 ·have hlen:xs.length=ys.length:=by
                      have:(xs.length:Int)=ys.length:=by simpa [bne] using h
                      omega
  obtain ⟨h1,h2⟩:=hp
  refine ⟨fun hlt=>?_,fun hge=>?_⟩
  ·have hlt:x<xs.length:=by simpa using hlt
   refine ⟨⟨by omega,by omega⟩,⟨by omega,by omega⟩,fun he=>?_,fun he=>⟨x+1,⟨rfl,rfl,wrapN (by omega)⟩,⟨by omega,below_succ h2 ?_⟩,muN hlt⟩⟩
   ·simp only [Int.toNat_natCast,bne_iff_ne,ne_eq] at he
    exact (decide_eq_false fun h=>he (by rw [h])).symm
   ·simpa [bne] using he
  ·have:x=xs.length:=by simp at hge;omega
   subst this
   exact (decide_eq_true (ext_getD hlen h2)).symm
def laws_jaInts_c:Con Tryz.prog:=con0 [.lend,.lend] fun b:List Int×List Int=>laws_jaInts_ok (b.1) (b.2)
theorem spec_l1Val_ok (xs:List Int):FunOK Tryz.prog 196 1 [] [(0,k1 (sI xs))] (·=[(1,kB (valB xs))]):=by
 refine fun_to (E:=⟨tab,ctOf [spec_l1In_c],19,[],[(0,[0]),(1,[0,3]),(2,[0,3,7]),(3,[0,3]),(4,[0,3,15]),(5,[2]),(6,[2])],[(0,⟨Nat,fun x=>[(0,(k1 (.sh 3 (typ (0:Int) eI xs)))),(3,(k1 (.n .i64 (x:Int))))]⟩)],[],[],[]⟩) tab_ok mixed Tryz.func196 rfl Tryz.ntmps196 (rvs:=[.tmp 2]) Tryz.results196 rfl fun hl=>?_
 refine cast (show (∃ (pre:Nat->Prop),∃ (μ:Nat->Nat),∃ (x0:Nat),(q_I xs xs/\i_0=zi x0)/\pre x0/\∀ (x:Nat),pre x->(decide (zi x<zi xs.length)=true->(i_0<=zi x/\zi x<zi xs.length)/\∃ (b:Int×Int×Int),(g_Int xs x=b.1/\i_0=b.2.1/\i_9999=b.2.2)/\((!inR b.1 b.2.1 b.2.2)=true->false=valB xs)/\((!inR b.1 b.2.1 b.2.2)=false->∃ (y:Nat),(q_I xs xs/\wr_ ((zi x)+i_1)=zi y)/\pre y/\μ y<μ x))/\(decide (zi x<zi xs.length)=false->∃ (b:Int×Int×Int),(zi xs.length=b.1/\i_1=b.2.1/\i_3=b.2.2)/\inR b.1 b.2.1 b.2.2=valB xs))=_ by kernel_rfl) ?_
 delta i_0 i_1 i_3 wr_ g_Int zi t_I q_I i_9999
 have hx:xs.length<=9223372036854775807:=hl.1 _ (List.mem_singleton.2 rfl)
 refine ⟨fun i=>i<=xs.length/\∀ j,j<i->inR (xs.getD j 0) 0 9999=true,fun i=>xs.length-i,0,by simp,by simp,fun x ⟨h1,h2⟩=>⟨fun hlt=>?_,fun hge=>?_⟩⟩
 ·have hlt:x<xs.length:=by simpa using hlt
  refine ⟨⟨by omega,by omega⟩,(xs.getD x 0,0,9999),⟨rfl,rfl,rfl⟩,fun he=>?_,fun he=>⟨x+1,⟨rfl,wrapN (by omega)⟩,⟨by omega,below_succ h2 (by simpa using he)⟩,muN hlt⟩⟩
  rw [valB,all_hit (p:=(inR · 0 9999)) hlt (by simpa using he)];rfl
 ·have:x=xs.length:=by simp at hge;omega
  subst this
  exact ⟨(xs.length,1,3),⟨rfl,rfl,rfl⟩,by rw [valB,all_miss (p:=(inR · 0 9999)) h2];rfl⟩
def spec_l1Val_c:Con Tryz.prog:=con0 [.lend] fun b:List Int=>spec_l1Val_ok b
theorem spec_l1Key_ok (s:ByteArray):FunOK Tryz.prog 158 1 [] [(0,kS s)] (·=[(1,kB (keyB s))]):=by
 refine fun_to (E:=⟨tab,ctOf [spec_l1In_c],34,[],[(0,[0]),(1,[0,17]),(2,[2]),(3,[0,3]),(4,[0,3,21]),(5,[0,3]),(6,[0,3,33]),(7,[2]),(8,[2])],[(0,⟨Nat,fun x=>[(0,(k1 (.s s))),(3,(k1 (.n .i64 (x:Int))))]⟩)],[],[],[]⟩) tab_ok mixed Tryz.func158 rfl Tryz.ntmps158 (rvs:=[.tmp 2]) Tryz.results158 rfl fun hl=>?_
 refine cast (show (∃ (b:Int×Int×Int),(zi s.size=b.1/\i_2=b.2.1/\i_3=b.2.2)/\((!inR b.1 b.2.1 b.2.2)=false->(i_0<=i_0/\i_0<zi s.size)/\(decide (byteAt s (Int.toNat i_0)<i_97)=false->(i_0<=i_0/\i_0<zi s.size)/\(decide (byteAt s (Int.toNat i_0)>i_122)=true->false=keyB s)/\(decide (byteAt s (Int.toNat i_0)>i_122)=false->∃ (pre:Nat->Prop),∃ (μ:Nat->Nat),∃ (x0:Nat),(s=s/\i_1=zi x0)/\pre x0/\∀ (x:Nat),pre x->(decide (zi x<zi s.size)=true->(i_0<=zi x/\zi x<zi s.size)/\(decide (byteAt s (zi x).toNat<i_48)=false->(i_0<=zi x/\zi x<zi s.size)/\(decide (byteAt s (zi x).toNat>i_57)=true->false=keyB s)/\(decide (byteAt s (zi x).toNat>i_57)=false->∃ (y:Nat),(s=s/\wr_ ((zi x)+i_1)=zi y)/\pre y/\μ y<μ x))/\(decide (byteAt s (zi x).toNat<i_48)=true->false=keyB s))/\(decide (zi x<zi s.size)=false->true=keyB s)))/\(decide (byteAt s (Int.toNat i_0)<i_97)=true->false=keyB s))/\((!inR b.1 b.2.1 b.2.2)=true->false=keyB s))=_ by kernel_rfl) ?_
 delta i_0 i_1 i_2 i_3 wr_ zi i_97 i_122 i_48 i_57
 refine ⟨(s.size,2,3),⟨rfl,rfl,rfl⟩,fun h=>?_,fun h=>by simp_all [keyB]⟩
 have hs:2<=s.size/\s.size<=3:=by simp [inR] at h;omega
 have h0:inR s.size 2 3=true:=by simpa using h
 refine ⟨⟨by omega,by omega⟩,fun ha=>⟨⟨by omega,by omega⟩,fun hb=>?_,fun hb=>?_⟩,fun ha=>?_⟩
 ·simp [keyB,inR] at *;omega
 ·have hc:inR (byteAt s 0) 97 122=true:=by simp [inR] at *;omega
  refine ⟨fun i=>1<=i/\i<=s.size/\∀ j,j<i->j=0∨dig s j=true,fun i=>s.size-i,1,by simp,⟨by omega,by omega,fun j hj=>.inl (by omega)⟩,fun x ⟨h1,h2,h3⟩=>⟨fun hlt=>?_,fun hge=>?_⟩⟩
  ·have hlt:x<s.size:=by simpa using hlt
   have hno:dig s x=false->false=keyB s:=fun hd=>by
    rw [keyB,h0,hc]
    simp only [Bool.true_and]
    exact (List.all_eq_false.2 ⟨x,List.mem_range.2 hlt,by simp [hd];omega⟩).symm
   refine ⟨⟨by omega,by omega⟩,fun hd=>⟨⟨by omega,by omega⟩,fun he=>hno ?_,fun he=>⟨x+1,⟨rfl,wrapN (by omega)⟩,⟨by omega,by omega,below_succ h3 (.inr ?_)⟩,muN hlt⟩⟩,fun hd=>hno ?_⟩<;>simp [dig,inR] at *<;>omega
  ·have:x=s.size:=by simp at hge;omega
   subst this
   rw [keyB,h0,hc]
   simp only [Bool.true_and]
   refine (List.all_eq_true.2 fun j hj=>?_).symm
   rcases h3 j (List.mem_range.1 hj) with h | h<;>simp [h]
 ·simp [keyB,inR] at *;omega
def spec_l1Key_c:Con Tryz.prog:=con0 [.lend] fun b:ByteArray=>spec_l1Key_ok b
end Go.Proofs.AI
namespace Go.Proofs.AI
open Go.RowKit Go.Proofs
set_option linter.unusedVariables false
set_option linter.unusedSimpArgs false
set_option maxRecDepth 100000
def ltB (x y:ByteArray):Bool:=Op.bytesLess x.toList y.toList
def itemB (x:Item):Bool:=keyB x.key&&valB x.val
def stoP (s:Sto) (k:Nat):Bool:=itemB (s.getD k dItem)&&(k==0||ltB (s.getD (k-1) dItem).key (s.getD k dItem).key)
def stoB (s:Sto):Bool:=decide (s.length<=40)&&(List.range s.length).all (stoP s)
theorem range_hit {n i:Nat} {p:Nat->Bool} (h:i<n) (hp:p i=false):(List.range n).all p=false :=
 List.all_eq_false.2 ⟨i,List.mem_range.2 h,by simp [hp]⟩
theorem range_miss {n:Nat} {p:Nat->Bool} (h:∀ i,i<n->p i=true):(List.range n).all p=true :=
 List.all_eq_true.2 fun i hi=>h i (List.mem_range.1 hi)
def getS (s:Sto) (k:ByteArray):Option (List Int):=(s.find? fun x=>eqB x.key k).map (·.val)
def wrtB (w:Wrt):Bool:=keyB w.key&&(bif w.del then w.val.length==0 else valB w.val)
def stepW (w:Wrt) (a:List Item×Bool) (it:Item):List Item×Bool :=
 let b:=bif !a.2&&ltB w.key it.key then (a.1++[⟨w.key,w.val⟩],true) else a
 bif !eqB it.key w.key then (b.1++[it],b.2) else bif !w.del then (b.1++[⟨w.key,w.val⟩],true) else b
def writeS (s:Sto) (w:Wrt):Sto :=
 let a:=s.foldl (stepW w) ([],w.del)
 bif !a.2 then a.1++[⟨w.key,w.val⟩] else a.1
theorem stepW_len (w:Wrt) (a:List Item×Bool) (it:Item):(stepW w a it).1.length<=a.1.length+2:=by
 simp only [stepW]
 cases !a.2&&ltB w.key it.key<;>cases !eqB it.key w.key<;>cases !w.del<;>simp
theorem stepW_mem (w:Wrt) (a:List Item×Bool) (it x:Item) (h:x∈(stepW w a it).1):x∈a.1∨x=it∨x=⟨w.key,w.val⟩:=by
 simp only [stepW] at h
 revert h
 cases !a.2&&ltB w.key it.key<;>cases !eqB it.key w.key<;>cases !w.del<;>simp<;>grind
theorem writeS_mem (s:Sto) (w:Wrt) (x:Item) (h:x∈writeS s w):x∈s∨x=⟨w.key,w.val⟩:=by
 have key:∀ (s:Sto) (a:List Item×Bool),x∈(s.foldl (stepW w) a).1->x∈a.1∨x∈s∨x=⟨w.key,w.val⟩:=by
  intro s
  induction s with
  | nil=>intro a h;exact .inl h
  | cons it s ih =>
   intro a h
   rcases ih _ h with h | h | h
   ·rcases stepW_mem w a it x h with h | h | h
    ·exact .inl h
    ·exact .inr (.inl (by simp [h]))
    ·exact .inr (.inr h)
   ·exact .inr (.inl (by simp [h]))
   ·exact .inr (.inr h)
 simp only [writeS] at h
 have h2:=key s ([],w.del)
 revert h
 cases !(s.foldl (stepW w) ([],w.del)).2
 ·intro h;rcases h2 h with h | h
  ·simp at h
  ·exact h
 ·simp only [cond_true,List.mem_append,List.mem_singleton]
  rintro (h | h)
  ·rcases h2 h with h | h
   ·simp at h
   ·exact h
  ·exact .inr h
def doL:Sto->List Wrt->Sto
 | x,[]=>x
 | x,w::r=>bif !wrtB w then [] else bif decide (40<(writeS x w).length) then [] else doL (writeS x w) r
def doS (s:Sto) (ws:List Wrt):Sto:=bif stoB s then doL s ws else []
theorem find_first {α:Type} {p:α->Bool} {d:α}:∀ {xs:List α} {i:Nat},i<xs.length->p (xs.getD i d)=true->(∀ j,j<i->p (xs.getD j d)=false)->xs.find? p=some (xs.getD i d)
 | x::xs,0,_,h,_=>by simp at h ⊢;simp [List.find?_cons,h]
 | x::xs,i+1,hi,h,hb=>by
  have h0:=hb 0 (by omega)
  simp at h0
  simp only [List.find?_cons,h0]
  have:=find_first (p:=p) (d:=d) (xs:=xs) (i:=i) (by simpa using hi) (by simpa using h) (fun j hj=>by simpa using hb (j+1) (by omega))
  simpa using this
theorem find_none {α:Type} {p:α->Bool} {d:α} {xs:List α} (h:∀ j,j<xs.length->p (xs.getD j d)=false):xs.find? p=none:=by
 refine List.find?_eq_none.2 fun x hx=>?_
 obtain ⟨j,hj,rfl⟩:=List.getElem_of_mem hx
 have:=h j hj
 rw [getD_lt hj] at this
 simp [this]
theorem take_succ {α:Type} {d:α} {xs:List α} {i:Nat} (h:i<xs.length):xs.take (i+1)=xs.take i++[xs.getD i d]:=by
 rw [getD_lt h,List.take_succ_eq_append_getElem h]
theorem fold_succ {α β:Type} {d:α} {f:β->α->β} {b:β} {xs:List α} {i:Nat} (h:i<xs.length):(xs.take (i+1)).foldl f b=f ((xs.take i).foldl f b) (xs.getD i d):=by
 rw [take_succ h (d:=d),List.foldl_append];rfl
theorem drop_at {α:Type} {d:α} {xs:List α} {i:Nat} (h:i<xs.length):xs.drop i=xs.getD i d::xs.drop (i+1):=by
 rw [getD_lt h,List.drop_eq_getElem_cons h]
theorem ygt {n k:Nat} (h:decide ((n:Int)>(k:Int))=true):k<n:=by simpa using h
theorem ngt {n k:Nat} (h:decide ((n:Int)>(k:Int))=false):n<=k:=by simp at h;omega
theorem nlt {x n:Nat} (h:decide ((x:Int)<(n:Int))=false):n<=x:=by simp at h;omega
theorem ylt {x n:Nat} (h:decide ((x:Int)<(n:Int))=true):x<n:=by simpa using h
theorem valB_len {v:List Int} (h:valB v=true):v.length<=3:=by
 simp [valB,inR] at h;omega
def small3 (s:Sto):Prop:=s.length<=40/\∀ x∈s,x.val.length<=3
theorem wrtB_len {w:Wrt} (h:wrtB w=true):w.val.length<=3:=by
 simp only [wrtB,Bool.and_eq_true] at h
 cases hd:w.del with
 | true=>simp [hd] at h;simp [h.2]
 | false=>rw [hd] at h;exact valB_len h.2
theorem stoB_small {s:Sto} (h:stoB s=true):small3 s:=by
 simp only [stoB,Bool.and_eq_true,decide_eq_true_eq,List.all_eq_true,List.mem_range] at h
 refine ⟨h.1,fun x hx=>?_⟩
 obtain ⟨j,hj,rfl⟩:=List.getElem_of_mem hx
 have:=h.2 j hj
 rw [stoP,getD_lt hj,Bool.and_eq_true,itemB,Bool.and_eq_true] at this
 exact valB_len this.1.2
theorem exists_wrt {p:Wrt->Prop}:(∃ w,p w)↔∃ k d v,p ⟨k,d,v⟩:=⟨fun ⟨w,h⟩=>⟨w.key,w.del,w.val,h⟩,fun ⟨k,d,v,h⟩=>⟨⟨k,d,v⟩,h⟩⟩
theorem writeS_small {s:Sto} {w:Wrt} (hs:small3 s) (hw:wrtB w=true) (h:(writeS s w).length<=40):small3 (writeS s w):=by
 refine ⟨h,fun x hx=>?_⟩
 rcases writeS_mem s w x hx with h1 | rfl
 ·exact hs.2 x h1
 ·exact wrtB_len hw
def small (s:Sto):Prop:=s.length<=1000/\∀ x∈s,x.val.length<=1000
theorem small_of {s:Sto} (h:small3 s):small s:=⟨by have:=h.1;omega,fun x hx=>by have:=h.2 x hx;omega⟩
theorem spec_StoOk_ok (s:Sto):FunOK Tryz.prog 240 1 [] [(0,kSto s)] (·=[(1,kB (stoB s))]):=by
 refine fun_to (E:=⟨tab,ctOf [spec_l1Key_c,spec_l1Val_c],53,[],[(0,[1]),(1,[1,7]),(2,[2]),(3,[1,3]),(4,[1,3,12]),(5,[1,3]),(6,[1,3,52]),(7,[2]),(8,[2])],[(0,⟨Nat,fun x=>[(1,⟨.box,[.c (.sh 263 (typ dItem eItemS s))],[]⟩),(3,(k1 (.n .i64 (x:Int))))]⟩)],[],[],[]⟩) tab_ok mixed Tryz.func240 rfl Tryz.ntmps240 (rvs:=[.tmp 2]) Tryz.results240 rfl fun hl=>?_
 refine cast (show ((decide ((zi (List.length s))>i_40)=true->false=stoB s)/\(decide ((zi (List.length s))>i_40)=false->∃ (pre:Nat->Prop),∃ (μ:Nat->Nat),∃ (x0:Nat),(q_a s s/\i_0=zi x0)/\pre x0/\(∀ (x:Nat),let k_2:Prop:=i_0<=zi x/\zi x<(zi (List.length s));let k_1:Prop:=∃ (y:Nat),(q_a s s/\wr_ ((zi x)+i_1)=zi y)/\pre y/\μ y<μ x;pre x->(decide (zi x<(zi (List.length s)))=true->k_2/\(∃ (b:ByteArray),(List.getD s (zi x).toNat dItem).key=b/\((!keyB b)=false->k_2/\(∃ (b:List Int),q_I (List.getD s (zi x).toNat dItem).val b/\((!valB b)=false->(decide ((zi x)>i_0)=true->(i_0<=wr_ ((zi x)-i_1)/\wr_ ((zi x)-i_1)<(zi (List.length s)))/\k_2/\((!Op.bytesLess (List.getD s (wr_ ((zi x)-i_1)).toNat dItem).key.toList (List.getD s (zi x).toNat dItem).key.toList)=true->false=stoB s)/\((!Op.bytesLess (List.getD s (wr_ ((zi x)-i_1)).toNat dItem).key.toList (List.getD s (zi x).toNat dItem).key.toList)=false->k_1))/\(decide ((zi x)>i_0)=false->k_1))/\((!valB b)=true->false=stoB s)))/\((!keyB b)=true->false=stoB s)))/\(decide (zi x<(zi (List.length s)))=false->true=stoB s))))=_ by kernel_rfl) ?_
 delta i_0 i_1 wr_ zi t_I q_I t_a q_a i_40
 have hx:s.length<=9223372036854775807:=hl.1 _ (List.mem_singleton.2 rfl)
 refine ⟨fun h=>?_,fun h=>⟨fun i=>i<=s.length/\∀ j,j<i->stoP s j=true,fun i=>s.length-i,0,by simp,by simp,fun x ⟨h1,h2⟩=>⟨fun hlt=>?_,fun hge=>?_⟩⟩⟩
 ·simp [stoB,show ¬ s.length<=40 by simp at h;omega]
 ·have hlt:x<s.length:=by simpa using hlt
  have bad:stoP s x=false->false=stoB s:=fun hp=>by simp [stoB,range_hit hlt hp]
  have go:stoP s x=true->∃ (y:Nat),(cnRs (typ dItem eItemS s)=cnRs (typ dItem eItemS s)/\IntKind.i64.wrap ((x:Int)+1)=(y:Int))/\(y<=s.length/\∀ j,j<y->stoP s j=true)/\s.length-y<s.length-x:=fun hp =>
   ⟨x+1,⟨rfl,wrapN (by omega)⟩,⟨by omega,below_succ h2 hp⟩,muN hlt⟩
  refine ⟨⟨by omega,by omega⟩,_,rfl,fun hk=>⟨⟨by omega,by omega⟩,_,rfl,fun hv=>⟨fun h0=>?_,fun h0=>go ?_⟩,fun hv=>bad ?_⟩,fun hk=>bad ?_⟩
  ·have h0:0<x:=by simpa using h0
   rw [show IntKind.i64.wrap ((x:Int)-1)=((x-1:Nat):Int) by rw [IntWalk.i64_in _ (by omega)];omega]
   simp only [Int.toNat_natCast] at *
   refine ⟨⟨by omega,by omega⟩,⟨by omega,by omega⟩,fun h=>bad ?_,fun h=>go ?_⟩
   ·simp [stoP,ltB,show x≠0 by omega];intro _;simpa using h
   ·simp_all [stoP,ltB,itemB]
  ·simp at h0;subst h0;simp_all [stoP,itemB]
  ·simp_all [stoP,itemB]
  ·simp_all [stoP,itemB]
 ·have:x=s.length:=by simp at hge;omega
  subst this
  simp [stoB,range_miss h2];simp at h;omega
def spec_StoOk_c:Con Tryz.prog:=con0 [.lend] fun b:Sto=>spec_StoOk_ok b
theorem spec_l1Get_ok (s:Sto) (k:ByteArray) (hpre:small s):FunOK Tryz.prog 244 2 [] [(0,kSto s),(1,kS k)] (·=[(2,⟨.tup [(false,1),(false,1)],[.c (oI ((getS s k).getD [])),.c (.b (getS s k).isSome)],[]⟩)]):=by
 refine fun_to (E:=⟨tab,ctOf [],31,[],[(0,[1,2,22,23,24,25,26,27,28,29,30]),(1,[1,2,6,22,23,24,25,26,27,28,29,30]),(2,[1,2,6,11,22,23,24,25,26,27,28,29,30]),(3,[1,2,6,22,23,24,25,26,27,28,29,30]),(4,[1,2,6,21,22,23,24,25,26,27,28,29,30]),(5,[2,4,5,22,23,24,25,26,27,28,29,30]),(6,[2,4,5,22,23,24,25,26,27,28,29,30])],[(0,⟨Nat,fun x=>[(1,(k1 (.s k))),(2,⟨.box,[.c (.sh 263 (typ dItem eItemS s))],[]⟩),(6,(k1 (.n .i64 (x:Int))))]⟩)],[],[],[]⟩) tab_ok mixed Tryz.func244 rfl Tryz.ntmps244 (rvs:=[.tmp 4,.tmp 5]) Tryz.results244 rfl fun hl=>?_
 refine cast (show (∃ (pre:Nat->Prop),∃ (μ:Nat->Nat),∃ (x0:Nat),(k=k/\q_a s s/\i_0=zi x0)/\pre x0/\(∀ (x:Nat),let k_1:Prop:=i_0<=zi x/\zi x<(zi (List.length s));pre x->(decide (zi x<(zi (List.length s)))=true->k_1/\(((List.getD s (zi x).toNat dItem).key.toList==k.toList)=true->k_1/\(n_0+(List.getD s (zi x).toNat dItem).val.length)*n_8<=n_140737488355328/\cnRs (appR (raw []) (typ i_0 eI (List.getD s (zi x).toNat dItem).val))=t_I ((getS s k).getD [])/\true=(getS s k).isSome)/\(((List.getD s (zi x).toNat dItem).key.toList==k.toList)=false->∃ (y:Nat),(k=k/\q_a s s/\wr_ ((zi x)+i_1)=zi y)/\pre y/\μ y<μ x))/\(decide (zi x<(zi (List.length s)))=false->cnRs (raw [])=t_I ((getS s k).getD [])/\false=(getS s k).isSome)))=_ by kernel_rfl) ?_
 delta i_0 i_1 wr_ zi t_I t_a q_a n_0 n_8 n_140737488355328
 have hx:s.length<=9223372036854775807:=hl.1 _ (List.mem_singleton.2 rfl)
 refine ⟨fun i=>i<=s.length/\∀ j,j<i->eqB (s.getD j dItem).key k=false,fun i=>s.length-i,0,by simp,by simp,fun x ⟨h1,h2⟩=>⟨fun hlt=>?_,fun hge=>?_⟩⟩
 ·have hlt:x<s.length:=by simpa using hlt
  refine ⟨⟨by omega,by omega⟩,fun he=>?_,fun he=>⟨x+1,⟨rfl,rfl,wrapN (by omega)⟩,⟨by omega,below_succ h2 he⟩,muN hlt⟩⟩
  have hg:getS s k=some (s.getD x dItem).val:=by
   simp only [getS,find_first (p:=fun y:Item=>eqB y.key k) (d:=dItem) hlt he h2,Option.map_some]
  have hv:=hpre.2 (s.getD x dItem) (by rw [getD_lt hlt];exact List.getElem_mem hlt)
  refine ⟨⟨by omega,by omega⟩,by simp only [Int.toNat_natCast];omega,by simp [hg],by simp [hg]⟩
 ·have:x=s.length:=by simp at hge;omega
  subst this
  have hg:getS s k=none:=by simp only [getS,find_none (p:=fun y:Item=>eqB y.key k) (d:=dItem) h2,Option.map_none]
  simp [hg]
def spec_l1Get_c:Con Tryz.prog:=conP [.lend,.lend] fun (b:Sto×ByteArray) h=>spec_l1Get_ok (b.1) (b.2) h
theorem spec_l1Copy_ok (s:Sto) (hpre:small s):FunOK Tryz.prog 247 1 [] [(0,kSto s)] (·=[(1,⟨.agg,[.c (oItems s)],[]⟩)]):=by
 refine fun_to (E:=⟨tab,ctOf [],34,[],[(0,[1,2,3,33]),(1,[1,2,3,33]),(2,[1,2,3,4,33]),(3,[1,2,3,4,10,33]),(4,[1,2,3,4,33]),(5,[1,2,3,4,33]),(6,[2,3,33])],[(0,⟨List Item×Nat,fun x=>[(1,⟨.box,[.c (.sh 263 (typ dItem eItemS s))],[]⟩),(2,⟨.box,[.c (.ow 263 nilR)],[]⟩),(3,⟨.box,[.c (oItems (x.1))],[]⟩),(4,(k1 (.n .i64 (x.2:Int))))]⟩)],[],[],[]⟩) tab_ok mixed Tryz.func247 rfl Tryz.ntmps247 (rvs:=[.cell 2 245]) Tryz.results247 rfl fun hl=>?_
 refine cast (show (∃ (pre:List Item×Nat->Prop),∃ (μ:List Item×Nat->Nat),∃ (x0:List Item×Nat),(q_a s s/\cnRs nilR=cnRs nilR/\cnRs nilR=t_b x0.1/\i_0=zi x0.2)/\pre x0/\(∀ (x:List Item×Nat),let k_1:Prop:=i_0<=zi x.2/\zi x.2<(zi (List.length s));pre x->(decide (zi x.2<(zi (List.length s)))=true->k_1/\k_1/\(n_0+(List.getD s (zi x.2).toNat dItem).val.length)*n_8<=n_140737488355328/\(x.1.length+n_1)*n_40<=n_140737488355328/\(∃ (y:List Item×Nat),(q_a s s/\cnRs nilR=cnRs nilR/\cnRs (appR (typ dItem eItemO x.1) (raw [[CV.s (List.getD s (zi x.2).toNat dItem).key,CV.ow n_3 (appR (raw []) (typ i_0 eI (List.getD s (zi x.2).toNat dItem).val))]]))=t_b y.1/\wr_ ((zi x.2)+i_1)=zi y.2)/\pre y/\μ y<μ x))/\(decide (zi x.2<(zi (List.length s)))=false->q_b x.1 s)))=_ by kernel_rfl) ?_
 delta i_0 i_1 wr_ zi t_a q_a n_0 n_8 n_140737488355328 t_b q_b n_1 n_40 n_3
 have hx:s.length<=9223372036854775807:=hl.1 _ (List.mem_singleton.2 rfl)
 have hs:=hpre.1
 refine ⟨fun x=>x.2<=s.length/\x.1=s.take x.2,fun x=>s.length-x.2,([],0),by simp,by simp,fun x ⟨h1,h2⟩=>⟨fun hlt=>?_,fun hge=>?_⟩⟩
 ·have hlt:=ylt hlt
  have hv:=hpre.2 (s.getD x.2 dItem) (by rw [getD_lt hlt];exact List.getElem_mem hlt)
  have hn:x.1.length=x.2:=by rw [h2];simp;omega
  refine ⟨⟨by omega,by omega⟩,⟨by omega,by omega⟩,by simp only [Int.toNat_natCast];omega,by omega,(x.1++[s.getD x.2 dItem],x.2+1),⟨rfl,rfl,by simp,wrapN (by omega)⟩,⟨by simp;omega,?_⟩,muN hlt⟩
  simp only [h2];exact (take_succ hlt).symm
 ·have:x.2=s.length:=by have:=nlt hge;omega
  simp [h2,this]
def spec_l1Copy_c:Con Tryz.prog:=conP [.lend] fun (b:Sto) h=>spec_l1Copy_ok b h
theorem spec_WrtOk_ok (w:Wrt):FunOK Tryz.prog 159 1 [] [(0,kWrt w)] (·=[(1,kB (wrtB w))]):=by
 refine fun_to (E:=⟨tab,ctOf [spec_l1Key_c,spec_l1Val_c],22,[],[(0,[1]),(1,[1,4]),(2,[2]),(3,[2])],[],[],[],[]⟩) tab_ok mixed Tryz.func159 rfl Tryz.ntmps159 (rvs:=[.tmp 2]) Tryz.results159 rfl fun hl=>?_
 refine cast (show ((w.del=true->∃ (b:ByteArray),w.key=b/\(keyB b=true->(zi w.val.length==i_0)=wrtB w)/\(keyB b=false->false=wrtB w))/\(w.del=false->∃ (b:ByteArray),w.key=b/\(keyB b=true->∃ (b:List Int),q_I w.val b/\valB b=wrtB w)/\(keyB b=false->false=wrtB w)))=_ by kernel_rfl) ?_
 delta i_0 zi t_I q_I
 simp only [cI,nI_iff,exists_eq_left',wrtB]
 cases w.del<;>cases keyB w.key<;>simp [BEq.beq]<;>exact decide_eq_decide.2 (by omega)
def spec_WrtOk_c:Con Tryz.prog:=con0 [.lend] fun b:Wrt=>spec_WrtOk_ok b
theorem spec_l1Write_ok (s:Sto) (w:Wrt) (hpre:small s/\w.val.length<=1000):FunOK Tryz.prog 248 2 [] [(0,kSto s),(1,kWrt w)] (·=[(2,⟨.agg,[.c (mItems (writeS s w))],[]⟩)]):=by
 refine fun_to (E:=⟨tab,ctOf [],86,[],[(0,[2,3,4,5,85]),(1,[2,3,4,5,85]),(2,[2,3,4,5,6,85]),(3,[2,3,4,5,6,7,85]),(4,[2,3,4,5,6,7,16,85]),(5,[2,3,4,5,6,7,85]),(6,[2,3,4,5,6,7,8,85]),(7,[2,3,4,5,6,7,8,32,85]),(8,[2,3,4,5,7,8,85]),(9,[2,3,4,5,6,7,8,85]),(10,[2,3,4,5,6,7,8,49,85]),(11,[2,3,4,5,6,7,85]),(12,[2,3,4,5,6,7,58,85]),(13,[2,3,4,5,7,85]),(14,[2,3,4,5,6,7,85]),(15,[3,4,5,72,85]),(16,[4,5,85]),(17,[4,5,85])],[(0,⟨List Item×Bool×Nat,fun x=>[(2,⟨.box,[.c (.sh 263 (typ dItem eItemS s))],[]⟩),(3,⟨.box,[.c (.s w.key),.c (.b w.del),.c (.sh 3 (typ (0:Int) eI w.val))],[]⟩),(4,⟨.box,[.c (.ow 263 nilR)],[]⟩),(5,⟨.box,[.c (mItems (x.1))],[]⟩),(6,(k1 (.b (x.2.1)))),(7,(k1 (.n .i64 (x.2.2:Int))))]⟩)],[(8,[(8,[40])]),(11,[(1000002,[])]),(13,[(8,[66])]),(16,[(8,[80])])],[],[]⟩) tab_ok mixed Tryz.func248 rfl Tryz.ntmps248 (rvs:=[.cell 4 245]) Tryz.results248 rfl fun hl=>?_
 refine cast (show (let k_2:Prop:=(n_0+w.val.length)*n_8<=n_140737488355328;let k_1:Prop:=w.key=w.key/\w.del=w.del/\q_I w.val w.val;∃ (pre:y_1->Prop),∃ (μ:y_1->Nat),∃ (x0:y_1),(q_a s s/\k_1/\cnRs nilR=cnRs nilR/\cnRs nilR=t_a x0.1/\w.del=x0.2.1/\i_0=zi x0.2.2)/\pre x0/\(∀ (x:y_1),let k_8:Prop:=(x.1.length+n_1)*n_40<=n_140737488355328;let k_7:Prop:=(x.1.length+n_1+n_1)*n_40<=n_140737488355328;let k_6:Prop:=(!(List.getD s (zi x.2.2).toNat dItem).key.toList==w.key.toList)=true;let k_5:Prop:=(!(List.getD s (zi x.2.2).toNat dItem).key.toList==w.key.toList)=false;let k_4:Prop:=∃ (y:y_1),(q_a s s/\k_1/\cnRs nilR=cnRs nilR/\cnRs (appR (typ dItem eItemS x.1) (raw [[CV.s w.key,CV.sh n_3 (frozenRs (appR (raw []) (typ i_0 eI w.val)))]]))=t_a y.1/\true=y.2.1/\wr_ ((zi x.2.2)+i_1)=zi y.2.2)/\pre y/\μ y<μ x;let k_3:Prop:=(k_6->k_8/\(∃ (y:y_1),(q_a s s/\k_1/\cnRs nilR=cnRs nilR/\cnRs (appR (typ dItem eItemS x.1) (raw [[CV.s (List.getD s (zi x.2.2).toNat dItem).key,CV.sh n_3 (typ i_0 eI (List.getD s (zi x.2.2).toNat dItem).val)]]))=t_a y.1/\x.2.1=y.2.1/\wr_ ((zi x.2.2)+i_1)=zi y.2.2)/\pre y/\μ y<μ x))/\(k_5->((!w.del)=true->k_2/\k_8/\k_4)/\((!w.del)=false->∃ (y:y_1),(q_a s s/\k_1/\cnRs nilR=cnRs nilR/\q_a x.1 y.1/\x.2.1=y.2.1/\wr_ ((zi x.2.2)+i_1)=zi y.2.2)/\pre y/\μ y<μ x));pre x->(decide (zi x.2.2<(zi (List.length s)))=true->(i_0<=zi x.2.2/\zi x.2.2<(zi (List.length s)))/\((!x.2.1)=true->(Op.bytesLess w.key.toList (List.getD s (zi x.2.2).toNat dItem).key.toList=true->k_2/\k_8/\(k_6->k_7/\(∃ (y:y_1),(q_a s s/\k_1/\cnRs nilR=cnRs nilR/\cnRs (appR (appR (typ dItem eItemS x.1) (raw [[CV.s w.key,CV.sh n_3 (frozenRs (appR (raw []) (typ i_0 eI w.val)))]])) (raw [[CV.s (List.getD s (zi x.2.2).toNat dItem).key,CV.sh n_3 (typ i_0 eI (List.getD s (zi x.2.2).toNat dItem).val)]]))=t_a y.1/\true=y.2.1/\wr_ ((zi x.2.2)+i_1)=zi y.2.2)/\pre y/\μ y<μ x))/\(k_5->((!w.del)=true->k_2/\k_7/\(∃ (y:y_1),(q_a s s/\k_1/\cnRs nilR=cnRs nilR/\cnRs (appR (appR (typ dItem eItemS x.1) (raw [[CV.s w.key,CV.sh n_3 (frozenRs (appR (raw []) (typ i_0 eI w.val)))]])) (raw [[CV.s w.key,CV.sh n_3 (frozenRs (appR (raw []) (typ i_0 eI w.val)))]]))=t_a y.1/\true=y.2.1/\wr_ ((zi x.2.2)+i_1)=zi y.2.2)/\pre y/\μ y<μ x))/\((!w.del)=false->k_4)))/\(Op.bytesLess w.key.toList (List.getD s (zi x.2.2).toNat dItem).key.toList=false->k_3))/\((!x.2.1)=false->k_3))/\(decide (zi x.2.2<(zi (List.length s)))=false->((!x.2.1)=true->k_2/\k_8/\cnRs (appR (typ dItem eItemS x.1) (raw [[CV.s w.key,CV.sh n_3 (frozenRs (appR (raw []) (typ i_0 eI w.val)))]]))=t_a (writeS s w))/\((!x.2.1)=false->q_a x.1 (writeS s w)))))=_ by kernel_rfl) ?_
 delta i_0 i_1 wr_ zi t_I q_I t_a q_a n_0 n_8 n_140737488355328 n_1 n_40 n_3 y_1
 have hx:s.length<=1000:=hpre.1.1
 have hw:=hpre.2
 refine ⟨fun x=>x.2.2<=s.length/\x.1.length<=2*x.2.2/\(x.1,x.2.1)=(s.take x.2.2).foldl (stepW w) ([],w.del),fun x=>s.length-x.2.2,([],w.del,0),by simp,by simp,fun x hp=>?_⟩
 obtain ⟨h1,h2,h3⟩:=hp
 refine ⟨fun hl0=>?_,fun hge=>?_⟩
 ·have hlt:=ylt hl0
  clear hl0
  have e:∀ it,it=s.getD x.2.2 dItem->∃ (y:List Item×Bool×Nat),y=((stepW w (x.1,x.2.1) it).1,(stepW w (x.1,x.2.1) it).2,x.2.2+1)/\IntKind.i64.wrap ((x.2.2:Int)+1)=(y.2.2:Int)/\(y.2.2<=s.length/\y.1.length<=2*y.2.2/\(y.1,y.2.1)=(s.take y.2.2).foldl (stepW w) ([],w.del))/\s.length-y.2.2<s.length-x.2.2:=fun it hit=>by
   refine ⟨_,rfl,wrapN (by omega),⟨by simp only;omega,?_,?_⟩,muN hlt⟩
   ·have:=stepW_len w (x.1,x.2.1) it;simp only at this ⊢;omega
   ·simp only;rw [fold_succ hlt (d:=dItem),<- h3,<- hit]
  simp only [Int.toNat_natCast]
  generalize s.getD x.2.2 dItem=it at e ⊢
  obtain ⟨y,hy,e1,e2,e3⟩:=e it rfl
  clear e
  refine ⟨⟨by omega,by omega⟩,?_⟩
  simp only [e1,true_and,and_self]
  refine ⟨fun a1=>⟨fun a2=>⟨by omega,by omega,fun a3=>⟨by omega,y,⟨?_,?_⟩,e2,e3⟩,fun a3=>⟨fun a4=>⟨by omega,by omega,y,⟨?_,?_⟩,e2,e3⟩,fun a4=>⟨y,⟨?_,?_⟩,e2,e3⟩⟩⟩,
   fun a2=>⟨fun a3=>⟨by omega,y,⟨?_,?_⟩,e2,e3⟩,fun a3=>⟨fun a4=>⟨by omega,by omega,y,⟨?_,?_⟩,e2,e3⟩,fun a4=>⟨y,⟨?_,?_⟩,e2,e3⟩⟩⟩⟩,
   fun a1=>⟨fun a3=>⟨by omega,y,⟨?_,?_⟩,e2,e3⟩,fun a3=>⟨fun a4=>⟨by omega,by omega,y,⟨?_,?_⟩,e2,e3⟩,fun a4=>⟨y,⟨?_,?_⟩,e2,e3⟩⟩⟩⟩
  all_goals (clear e1 e2 e3 h1 h2 h3;subst hy)
  all_goals simp_all [stepW,ltB,beq_eq_false_iff_ne.2,eqB]
 ·have:x.2.2=s.length:=by have:=nlt hge;omega
  rw [this,List.take_length] at h3
  have hw':writeS s w=bif !x.2.1 then x.1++[⟨w.key,w.val⟩] else x.1:=by simp only [writeS,<- h3]
  refine ⟨fun a=>⟨by omega,by omega,?_⟩,fun a=>?_⟩
  ·simp_all
  ·simp_all
def spec_l1Write_c:Con Tryz.prog:=conP [.lend,.lend] fun (b:Sto×Wrt) h=>spec_l1Write_ok (b.1) (b.2) h
theorem spec_StoDo_ok (s:Sto) (ws:List Wrt) (hpre:ws.length<=1000):FunOK Tryz.prog 239 2 [] [(0,kSto s),(1,k1 (sWrts ws))] (·=[(2,⟨.agg,[.c (oItems (doS s ws))],[]⟩)]):=by
 refine fun_to (E:=⟨tab,ctOf [spec_WrtOk_c,spec_StoOk_c,spec_l1Copy_c,spec_l1Write_c],39,[],[(0,[1,2,4,10,25,36,38]),(1,[1,2,4,9,10,25,36,38]),(2,[4,10,25,36,38]),(3,[1,4,5,10,25,36,38]),(4,[1,4,5,6,10,25,36,38]),(5,[1,4,5,6,10,16,25,36,38]),(6,[1,4,5,6,10,25,36,38]),(7,[1,4,5,6,10,24,25,36,38]),(8,[4,10,25,36,38]),(9,[1,4,5,6,10,25,36,38]),(10,[1,4,5,6,10,25,35,36,38]),(11,[4,10,25,36,38]),(12,[4,10,25,36,38])],[(0,⟨List Item×List Item×Nat,fun x=>[(1,(k1 (.sh 102 (typ dWrt eWrtS ws)))),(4,⟨.box,[.c (oItems (x.1))],[]⟩),(5,⟨.box,[.c (sItems (x.2.1))],[]⟩),(6,(k1 (.n .i64 (x.2.2:Int))))]⟩)],[(4,[(0,[5])]),(10,[(0,[5])])],[],[]⟩) tab_ok mixed Tryz.func239 rfl Tryz.ntmps239 (rvs:=[.cell 4 245]) Tryz.results239 rfl fun hl=>?_
 refine cast (show (let k_1:Prop:=cnRs nilR=t_b (doS s ws);∃ (b:List Item),q_a s b/\((!stoB b)=true->k_1)/\((!stoB b)=false->∃ (b:List Item),q_a s b/\small b/\(∃ (pre:y_2->Prop),∃ (μ:y_2->Nat),∃ (x0:y_2),(q_c ws ws/\cnRs nilR=t_b x0.1/\cnRs (frozenRs (typ dItem eItemO b))=t_a x0.2.1/\i_0=zi x0.2.2)/\pre x0/\(∀ (x:y_2),let k_2:Prop:=i_0<=zi x.2.2/\zi x.2.2<zi ws.length;pre x->(decide (zi x.2.2<zi ws.length)=true->k_2/\(∃ (b:Wrt),((g_Wrt ws x.2.2).key=b.key/\(g_Wrt ws x.2.2).del=b.del/\q_I (g_Wrt ws x.2.2).val b.val)/\((!wrtB b)=true->k_1)/\((!wrtB b)=false->k_2/\(∃ (b:Sto×Wrt),(q_a x.2.1 b.1/\(g_Wrt ws x.2.2).key=b.2.key/\(g_Wrt ws x.2.2).del=b.2.del/\q_I (g_Wrt ws x.2.2).val b.2.val)/\(small b.1/\b.2.val.length<=n_1000)/\(decide ((zi (List.length (writeS b.1 b.2)))>i_40)=true->k_1)/\(decide ((zi (List.length (writeS b.1 b.2)))>i_40)=false->∃ (y:y_2),(q_c ws ws/\q_b x.1 y.1/\cnRs (frozenRs (typ dItem eItemS (writeS b.1 b.2)))=t_a y.2.1/\wr_ ((zi x.2.2)+i_1)=zi y.2.2)/\pre y/\μ y<μ x)))))/\(decide (zi x.2.2<zi ws.length)=false->∃ (b:List Item),q_a x.2.1 b/\small b/\q_b b (doS s ws))))))=_ by kernel_rfl) ?_
 delta i_0 i_1 wr_ zi t_I q_I t_a q_a i_40 t_b q_b g_Wrt t_c q_c n_1000 y_2
 have hx:=hpre
 simp only [cItemS,nItemS_iff,exists_eq_left',cWrtS,cI,nI_iff,List.length_eq_zero_iff,exists_wrt,Prod.exists,and_assoc,fItemO,fItemS,cItemO,nItemO_iff,cnRs_nil]
 refine ⟨fun h=>by simp_all [doS],fun h=>?_⟩
 have hs:stoB s=true:=by simpa using h
 have hd:doS s ws=doL s ws:=by simp [doS,hs]
 have hsm:=stoB_small hs
 refine ⟨small_of hsm,fun x=>x.2.2<=ws.length/\x.1=[]/\small3 x.2.1/\doL x.2.1 (ws.drop x.2.2)=doL s ws,fun x=>ws.length-x.2.2,[],s,0,trivial,rfl,rfl,rfl,⟨by simp,rfl,hsm,by simp⟩,fun x hp=>?_⟩
 obtain ⟨h1,h2,h3,h4⟩:=hp
 refine ⟨fun hl0=>?_,fun hge=>?_⟩
 ·have hlt:=ylt hl0
  clear hl0
  rw [drop_at hlt (d:=dWrt)] at h4
  simp only [Int.toNat_natCast]
  generalize ws.getD x.2.2 dWrt=w at h4 ⊢
  refine ⟨by omega,by omega,_,_,_,rfl,rfl,rfl,fun a1=>?_,fun a1=>?_⟩
  ·rw [hd,<- h4,doL];simp_all
  have hw:wrtB w=true:=by simpa using a1
  rw [doL,hw] at h4
  refine ⟨by omega,by omega,_,_,_,_,rfl,rfl,rfl,rfl,small_of h3,by have:=wrtB_len hw;omega,fun a2=>?_,fun a2=>?_⟩
  ·have:40<(writeS x.2.1 w).length:=ygt (k:=40) a2
   simp [this] at h4
   rw [hd,h4];rfl
  ·have hle:(writeS x.2.1 w).length<=40:=ngt (k:=40) a2
   simp [show ¬ 40<(writeS x.2.1 w).length by omega] at h4
   exact ⟨[],_,x.2.2+1,trivial,h2,rfl,wrapN (by omega),⟨by omega,rfl,writeS_small h3 hw hle,h4⟩,muN hlt⟩
 ·have:x.2.2=ws.length:=by have:=nlt hge;omega
  rw [this,List.drop_length] at h4
  simp only [doL] at h4
  exact ⟨small_of h3,by rw [hd,h4]⟩
def spec_StoDo_c:Con Tryz.prog:=conP [.lend,.lend] fun (b:Sto×List Wrt) h=>spec_StoDo_ok (b.1) (b.2) h
end Go.Proofs.AI
namespace Go.Proofs.AI
open Go.RowKit Go.Proofs
set_option linter.unusedVariables false
set_option linter.unusedSimpArgs false
set_option maxRecDepth 100000
def digS (n:Int):ByteArray:=⟨#[UInt8.ofNat (48+n.toNat)]⟩
def natS (n:Nat):ByteArray:=if h:n<10 then digS n else natS (n / 10)++digS (n % 10:Nat)
theorem app_nil (x:ByteArray):x++⟨#[]⟩=x:=by
 apply ByteArray.ext;simp
theorem digS_size (n:Int):(digS n).size=1:=rfl
theorem natS_lt {n:Nat} (h:n<10):natS n=digS n:=by rw [natS,dif_pos h]
theorem natS_ge {n:Nat} (h:¬ n<10):natS n=natS (n / 10)++digS (n % 10:Nat):=by rw [natS,dif_neg h]
theorem natS_size (n:Nat) (h:n<100):(natS n).size<=2:=by
 rcases Nat.lt_or_ge n 10 with h1 | h1
 ·rw [natS_lt h1,digS_size];omega
 ·rw [natS_ge (by omega),natS_lt (by omega),ByteArray.size_append,digS_size,digS_size];omega
theorem u8_in {x:Int} (h:0<=x/\x<=255):IntKind.u8.wrap x=x:=by
 simp only [IntKind.wrap,IntKind.signed,IntKind.bits];simp;omega
def noP (l:List ByteArray):Plan:=⟨false,l,[]⟩
def kd (c:UInt8) (n:Int):ByteArray:=⟨#[c]⟩++digS n
def secB (n:Int):Int:=if inR n 0 99 then (n*7919+104) % 9973 else -1
def placesL (o:Opr):List Int:=if opOk o then (if o.kind=1 then [1,3] else if o.kind=2∨o.kind=5 then [1,2,3] else [2,3]) else []
def formI (p:Int) (it:Item):Bool :=
 let c:=byteAt it.key 0
 let n:=it.val.length
 let who:=it.val.getD 0 0
 (((p==1&&c==115&&n==1&&decide (who<=9))||(p==3&&c==97&&n==1))||(p==2&&decide (who<=9)&&((c==99&&n==2)||(c==102&&n==3&&inR (it.val.getD 1 0) 1 99&&decide (it.val.getD 2 0<=1)))))&&(c==97||it.key.size==2)
def formB (p:Int) (s:Sto):Bool:=s.all (formI p)
def plcB (p:Int) (s:Sto):Bool:=inR p 1 3&&stoB s&&formB p s
abbrev kPlan (p:Plan):Ky:=⟨.agg,[.c (.b p.ok),.c (oS p.locks),.c (oWrts p.writes)],[]⟩
def getV (s:Sto) (k:ByteArray):List Int:=(getS s k).getD []
def hasV (s:Sto) (k:ByteArray):Bool:=(getS s k).isSome
def inP (s:Sto) (o:Opr):Plan :=
 let key:=kd 115 o.inn
 if o.kind=1 then (if hasV s key=true then noP [key] else ⟨true,[key],[⟨key,false,[o.who]⟩]⟩)
 else if hasV s key=true/\(getV s key).getD 0 0=o.who then ⟨true,[key],if o.kind=5 then [⟨key,true,[]⟩] else []⟩ else noP [key]
def tradeP (s:Sto) (o:Opr):Plan :=
 let code:=kd 99 o.code
 let fam:=kd 102 o.fam
 let v:=getV s code
 if hasV s code=true/\hasV s fam=false/\v.getD 1 0=secB o.sec then ⟨true,[code,fam,kd 117 (v.getD 0 0)],[⟨code,true,[]⟩,⟨fam,false,[v.getD 0 0,1,1]⟩]⟩ else noP [code,fam]
def nextP (s:Sto) (o:Opr):Plan :=
 let fam:=kd 102 o.fam
 let v:=getV s fam
 if hasV s fam=false∨v.getD 2 0=0∨v.getD 1 0<o.gen∨o.gen=0∨v.getD 1 0=99 then noP [fam]
 else ⟨true,[fam,kd 117 (v.getD 0 0)],[⟨fam,false,if o.gen<v.getD 1 0 then [v.getD 0 0,v.getD 1 0,0] else [v.getD 0 0,v.getD 1 0+1,1]⟩]⟩
def outI (o:Opr) (it:Item):Bool:=byteAt it.key 0==102&&it.val.getD 0 0==o.who&&it.val.getD 2 0==1
def outW (it:Item):Wrt:=⟨it.key,false,[it.val.getD 0 0,it.val.getD 1 0,0]⟩
def outP (s:Sto) (o:Opr):Plan:=⟨true,kd 117 o.who::(s.filter (outI o)).map (·.key),(s.filter (outI o)).map outW⟩
def mayP (s:Sto) (o:Opr):Plan :=
 if o.kind=2 then (let code:=kd 99 o.code;if hasV s code=true then noP [code] else ⟨true,[code],[⟨code,false,[o.who,secB o.sec]⟩]⟩)
 else if o.kind=3 then tradeP s o else if o.kind=4 then nextP s o else outP s o
def planP (p:Int) (s:Sto) (tx:Int) (o:Opr):Plan :=
 if p=1 then inP s o else if p=2 then mayP s o else
 let key:=⟨#[97]⟩++natS tx.toNat
 if hasV s key=true then noP [key] else ⟨true,[key],[⟨key,false,[o.kind]⟩]⟩
theorem opt_cases {α:Type} (x:Option α):x=none∨∃ v,x=some v:=by cases x<;>simp
theorem len2 {α:Type}:∀ {l:List α},l.length=2->∃ a b,l=[a,b]
 | [a,b],_=>⟨a,b,rfl⟩
theorem len3 {α:Type}:∀ {l:List α},l.length=3->∃ a b c,l=[a,b,c]
 | [a,b,c],_=>⟨a,b,c,rfl⟩
@[simp] theorem consS {a:ByteArray} {r:List (List CV)} {xs:List ByteArray}:[CV.s a]::r=xs.map nS↔∃ ys,xs=a::ys/\r=ys.map nS:=by
 constructor
 ·intro h
  cases xs with
  | nil=>simp at h
  | cons x xs=>simp only [List.map_cons,nS,List.cons.injEq,CV.s.injEq,and_true] at h;exact ⟨xs,by rw [h.1],h.2⟩
 ·rintro ⟨ys,h1,h2⟩
  subst h1;simp [h2]
@[simp] theorem nilS {xs:List ByteArray}:[]=xs.map nS↔xs=[]:=by cases xs<;>simp
theorem eqB_eq {x y:ByteArray} (h:eqB x y=true):x=y:=by
 have h:x.toList=y.toList:=by simpa [eqB] using h
 rw [ByteArray.toList_eq,ByteArray.toList_eq] at h
 exact ByteArray.ext (Array.toList_inj.1 h)
theorem get_some {s:Sto} {k:ByteArray} {v:List Int} (h:getS s k=some v):∃ it∈s,it.key=k/\it.val=v:=by
 simp only [getS] at h
 obtain ⟨it,h1,h2⟩:=Option.map_eq_some_iff.1 h
 exact ⟨it,List.mem_of_find?_eq_some h1,eqB_eq (by simpa using List.find?_some h1),h2⟩
theorem plc_sto {p:Int} {s:Sto} (h:plcB p s=true):stoB s=true:=by
 simp only [plcB,Bool.and_eq_true] at h;exact h.1.2
theorem plc_small {p:Int} {s:Sto} (h:plcB p s=true):small s:=small_of (stoB_small (plc_sto h))
theorem plc_form {p:Int} {s:Sto} (h:plcB p s=true) {it:Item} (hm:it∈s):formI p it=true:=by
 simp only [plcB,Bool.and_eq_true] at h
 exact List.all_eq_true.1 h.2 it hm
theorem sto_item {s:Sto} (h:stoB s=true) {it:Item} (hm:it∈s):itemB it=true:=by
 simp only [stoB,Bool.and_eq_true,decide_eq_true_eq,List.all_eq_true,List.mem_range] at h
 obtain ⟨j,hj,rfl⟩:=List.getElem_of_mem hm
 have:=h.2 j hj
 rw [stoP,getD_lt hj,Bool.and_eq_true] at this
 exact this.1
theorem sto_val {s:Sto} (h:stoB s=true) {it:Item} (hm:it∈s):1<=it.val.length/\it.val.length<=3/\∀ i,0<=it.val.getD i 0/\it.val.getD i 0<=9999:=by
 have:=sto_item h hm
 simp only [itemB,valB,Bool.and_eq_true,List.all_eq_true,inR,decide_eq_true_eq] at this
 refine ⟨by omega,by omega,fun i=>?_⟩
 rcases Nat.lt_or_ge i it.val.length with hi | hi
 ·rw [getD_lt hi];exact this.2.1 _ (List.getElem_mem hi)
 ·simp [List.getD_eq_getElem?_getD,hi]
theorem kd_at (c:UInt8) (n:Int):byteAt (kd c n) 0=c.toNat:=by
 have:kd c n=⟨#[c,UInt8.ofNat (48+n.toNat)]⟩:=by apply ByteArray.ext;simp [kd,digS]
 rw [this];rfl
theorem get_in {s:Sto} (h:plcB 1 s=true) {k:ByteArray} {v:List Int} (hv:getS s k=some v):v.length=1:=by
 obtain ⟨it,hm,hk,rfl⟩:=get_some hv
 have:=plc_form h hm
 simp [formI] at this
 omega
theorem get_code {s:Sto} (h:plcB 2 s=true) {n:Int} {v:List Int} (hv:getS s (kd 99 n)=some v):v.length=2/\0<=v.getD 0 0/\v.getD 0 0<=9:=by
 obtain ⟨it,hm,hk,rfl⟩:=get_some hv
 have h1:=plc_form h hm
 have h2:=(sto_val (plc_sto h) hm).2.2 0
 simp [formI,hk,kd_at] at h1 h2 ⊢
 omega
theorem get_fam {s:Sto} (h:plcB 2 s=true) {n:Int} {v:List Int} (hv:getS s (kd 102 n)=some v):v.length=3/\0<=v.getD 0 0/\v.getD 0 0<=9/\1<=v.getD 1 0/\v.getD 1 0<=99:=by
 obtain ⟨it,hm,hk,rfl⟩:=get_some hv
 have h1:=plc_form h hm
 have h2:=(sto_val (plc_sto h) hm).2.2 0
 simp [formI,hk,kd_at,inR] at h1 h2 ⊢
 omega
theorem sto_key {s:Sto} (h:stoB s=true) {it:Item} (hm:it∈s):2<=it.key.size:=by
 have:=sto_item h hm
 simp only [itemB,keyB,Bool.and_eq_true,inR,decide_eq_true_eq] at this
 omega
theorem filter_succ {α:Type} {p:α->Bool} {d:α} {xs:List α} {i:Nat} (h:i<xs.length):(xs.take (i+1)).filter p=(xs.take i).filter p++if p (xs.getD i d)=true then [xs.getD i d] else []:=by
 rw [take_succ h (d:=d),List.filter_append]
 simp [List.filter_cons]
theorem c1 (n:Nat):((n:Int)==1)=(n==1):=by rw [Bool.eq_iff_iff];simp;omega
theorem c2 (n:Nat):((n:Int)==2)=(n==2):=by rw [Bool.eq_iff_iff];simp;omega
theorem c3 (n:Nat):((n:Int)==3)=(n==3):=by rw [Bool.eq_iff_iff];simp;omega
theorem n2 (n:Nat):((n:Int) != 2)=!(n==2):=by rw [Bool.eq_iff_iff];simp;omega
theorem t1:Int.toNat 1=1:=rfl
theorem t2:Int.toNat 2=2:=rfl
theorem op_nums {o:Opr} (h:opOk o=true):(0<=o.who/\o.who<=9)/\(0<=o.inn/\o.inn<=9)/\(0<=o.code/\o.code<=9)/\(0<=o.sec/\o.sec<=99)/\(0<=o.fam/\o.fam<=9)/\(0<=o.gen/\o.gen<=99):=by
 simp [opOk,inR] at h;omega
theorem spec_l3Digit_ok (n:Int) (hpre:0<=n/\n<=9):FunOK Tryz.prog 220 1 [] [(0,kI n)] (·=[(1,kS (digS n))]):=by
 refine fun_to (E:=⟨tab,ctOf [],8,[],[(0,[0]),(1,[2])],[],[],[],[]⟩) tab_ok mixed Tryz.func220 rfl Tryz.ntmps220 (rvs:=[.tmp 2]) Tryz.results220 rfl fun hl=>?_
 refine cast (show (strOfNums (List.map u8Of (typ i_0 (fun (y:Int)=>[CV.n IntKind.u8 y]) [IntKind.u8.wrap (wr_ (i_48+n))]).l)=digS n)=_ by kernel_rfl) ?_
 delta i_0 wr_ i_48
 rw [typ_l,IntWalk.i64_in _ (by omega),u8_in (by omega)]
 simp only [List.map,u8Of,strOfNums,digS]
 have:(48+n).toNat=48+n.toNat:=by omega
 simp [this,ByteArray.toList]
def spec_l3Digit_c:Con Tryz.prog:=conP [.lend] fun (b:Int) h=>spec_l3Digit_ok b h
theorem spec_l3Plain_ok (n:Int) (hpre:0<=n/\n<=1000000):FunOK Tryz.prog 209 1 [] [(0,kI n)] (·=[(1,kS (natS n.toNat))]):=by
 refine fun_to (E:=⟨tab,ctOf [spec_l3Digit_c],17,[],[(0,[0]),(1,[0,3]),(2,[0,3,5]),(3,[0,3]),(4,[0,3]),(5,[2])],[(0,⟨Int×ByteArray,fun x=>[(0,(k1 (.n .i64 (x.1)))),(3,(k1 (.s (x.2))))]⟩)],[],[],[]⟩) tab_ok mixed Tryz.func209 rfl Tryz.ntmps209 (rvs:=[.tmp 2]) Tryz.results209 rfl fun hl=>?_
 refine cast (show (∃ (pre:Int×ByteArray->Prop),∃ (μ:Int×ByteArray->Nat),∃ (x0:Int×ByteArray),(n=x0.1/\(ByteArray.mk #[])=x0.2)/\pre x0/\∀ (x:Int×ByteArray),pre x->(decide (x.1>i_9)=true->i_10≠i_0/\∃ (b:Int),x.1.tmod i_10=b/\(i_0<=b/\b<=i_9)/\(digS b).size+x.2.size<=n_9223372036854775807/\i_10≠i_0/\∃ (y:Int×ByteArray),(wr_ (x.1.tdiv i_10)=y.1/\digS b++x.2=y.2)/\pre y/\μ y<μ x)/\(decide (x.1>i_9)=false->∃ (b:Int),x.1=b/\(i_0<=b/\b<=i_9)/\(digS b).size+x.2.size<=n_9223372036854775807/\digS b++x.2=natS n.toNat))=_ by kernel_rfl) ?_
 delta i_0 i_9 wr_ i_10 n_9223372036854775807
 refine ⟨fun x=>0<=x.1/\x.1<=1000000/\natS n.toNat=natS x.1.toNat++x.2/\x.2.size+x.1.toNat<=1000000,fun x=>x.1.toNat,(n,⟨#[]⟩),⟨rfl,rfl⟩,⟨by omega,by omega,(app_nil _).symm,by show 0+n.toNat<=1000000;omega⟩,fun x hp=>?_⟩
 obtain ⟨h1,h2,h3,h4⟩:=hp
 refine ⟨fun hgt=>?_,fun hle=>?_⟩
 ·have hgt:9<x.1:=by simpa using hgt
  have hm:x.1.tmod 10=((x.1.toNat % 10:Nat):Int):=by rw [Int.tmod_eq_emod_of_nonneg h1];omega
  have hq:IntKind.i64.wrap (x.1.tdiv 10)=((x.1.toNat / 10:Nat):Int):=by rw [Int.tdiv_eq_ediv_of_nonneg h1,IntWalk.i64_in _ (by omega)];omega
  refine ⟨by omega,_,rfl,by rw [hm];omega,by rw [digS_size];omega,by omega,(((x.1.toNat / 10:Nat):Int),digS (x.1.tmod 10)++x.2),⟨hq,rfl⟩,⟨by simp only;omega,by simp only;omega,?_,?_⟩,?_⟩
  ·simp only [Int.toNat_natCast]
   rw [h3,natS_ge (n:=x.1.toNat) (by omega),hm,ByteArray.append_assoc]
  ·simp only [Int.toNat_natCast,ByteArray.size_append,digS_size];omega
  ·simp only [Int.toNat_natCast];omega
 ·have hle:x.1<=9:=by simpa using hle
  refine ⟨_,rfl,by omega,by rw [digS_size];omega,?_⟩
  rw [h3,natS_lt (n:=x.1.toNat) (by omega),Int.toNat_of_nonneg h1]
def spec_l3Plain_c:Con Tryz.prog:=conP [.lend] fun (b:Int) h=>spec_l3Plain_ok b h
theorem spec_SecSum_ok (n:Int):FunOK Tryz.prog 249 1 [] [(0,kI n)] (·=[(1,kI (secB n))]):=by
 refine fun_to (E:=⟨tab,ctOf [spec_l1In_c],10,[],[(0,[0]),(1,[0,5]),(2,[2]),(3,[2])],[],[],[],[]⟩) tab_ok mixed Tryz.func249 rfl Tryz.ntmps249 (rvs:=[.tmp 2]) Tryz.results249 rfl fun hl=>?_
 refine cast (show (∃ (b:Int×Int×Int),(n=b.1/\i_0=b.2.1/\i_99=b.2.2)/\((!inR b.1 b.2.1 b.2.2)=true->(-1:Int)=secB n)/\((!inR b.1 b.2.1 b.2.2)=false->i_9973≠i_0/\(wr_ (wr_ (n*i_7919)+i_104)).tmod i_9973=secB n))=_ by kernel_rfl) ?_
 delta i_0 i_99 wr_ i_9973 i_7919 i_104
 refine ⟨(n,0,99),⟨rfl,rfl,rfl⟩,fun h=>?_,fun h=>⟨by omega,?_⟩⟩
 ·simp_all [secB]
 ·simp only [Bool.not_eq_false'] at h
  have:0<=n/\n<=99:=by simpa [inR] using h
  rw [IntWalk.i64_in (n*7919) (by omega),IntWalk.i64_in _ (by omega),Int.tmod_eq_emod_of_nonneg (by omega)]
  simp [secB,h]
def spec_SecSum_c:Con Tryz.prog:=con0 [.lend] fun b:Int=>spec_SecSum_ok b
theorem spec_OpPlaces_ok (o:Opr):FunOK Tryz.prog 109 1 [] [(0,kOp o)] (·=[(1,k1 (oI (placesL o)))]):=by
 refine fun_to (E:=⟨tab,ctOf [spec_OpOk_c],17,[],[(0,[1,6,11,15,16]),(1,[1,5,6,11,15,16]),(2,[2,6,11,15,16]),(3,[6,8,11,15,16]),(4,[6,8,9,11,15,16]),(5,[2,6,11,15,16]),(6,[6,8,11,12,15,16]),(7,[6,11,12,15,16]),(8,[2,6,11,15,16]),(9,[2,6,11,15,16])],[],[],[],[]⟩) tab_ok mixed Tryz.func109 rfl Tryz.ntmps109 (rvs:=[.tmp 2]) Tryz.results109 rfl fun hl=>?_
 refine cast (show (let k_1:Prop:=cnRs (typ i_0 (fun (y:Int)=>[cn_ y]) [i_1,i_2,i_3])=t_I (placesL o);∃ (b:Opr),(o.kind=b.kind/\o.who=b.who/\o.inn=b.inn/\o.code=b.code/\o.sec=b.sec/\o.fam=b.fam/\o.gen=b.gen)/\((!opOk b)=true->cnRs (raw [])=t_I (placesL o))/\((!opOk b)=false->((o.kind==i_1)=true->cnRs (typ i_0 (fun (y:Int)=>[cn_ y]) [i_1,i_3])=t_I (placesL o))/\((o.kind==i_1)=false->((o.kind==i_2)=true->k_1)/\((o.kind==i_2)=false->((o.kind==i_5)=true->k_1)/\((o.kind==i_5)=false->cnRs (typ i_0 (fun (y:Int)=>[cn_ y]) [i_2,i_3])=t_I (placesL o))))))=_ by kernel_rfl) ?_
 delta i_0 i_1 i_5 i_2 i_3 t_I cn_
 refine ⟨o,⟨rfl,rfl,rfl,rfl,rfl,rfl,rfl⟩,fun h=>?_,fun h=>?_⟩
 ·simp_all [placesL]
 ·simp only [Bool.not_eq_false'] at h
  simp only [placesL,h,if_true]
  refine ⟨fun a=>?_,fun a=>⟨fun b=>?_,fun b=>⟨fun c=>?_,fun c=>?_⟩⟩⟩<;>simp_all
def spec_OpPlaces_c:Con Tryz.prog:=con0 [.lend] fun b:Opr=>spec_OpPlaces_ok b
theorem spec_l3No_ok (l:List ByteArray) (hpre:l.length<=10):FunOK Tryz.prog 245 1 [] [(0,k1 (sS l))] (·=[(1,kPlan (noP l))]):=by
 refine fun_to (E:=⟨tab,ctOf [],7,[],[(0,[0,2,3,4,5,6]),(1,[0,2,3,4,5,6])],[],[],[],[]⟩) tab_ok mixed Tryz.func245 rfl Tryz.ntmps245 (rvs:=[.cell 2 249]) Tryz.results245 rfl fun hl=>?_
 refine cast (show ((n_0+l.length)*n_16<=n_140737488355328/\false=(noP l).ok/\cnRs (appR (raw []) (typ ByteArray.empty eS l))=t_S (noP l).locks/\cnRs nilR=t_d (noP l).writes)=_ by kernel_rfl) ?_
 delta n_0 n_140737488355328 t_S t_d n_16
 exact ⟨by omega,rfl,by simp [noP],by simp [noP]⟩
def spec_l3No_c:Con Tryz.prog:=conP [.lend] fun (b:List ByteArray) h=>spec_l3No_ok b h
theorem spec_l3In_ok (s:Sto) (o:Opr) (hpre:plcB 1 s=true/\opOk o=true):FunOK Tryz.prog 242 2 [] [(0,kSto s),(1,kOp o)] (·=[(2,kPlan (inP s o))]):=by
 refine fun_to (E:=⟨tab,ctOf [spec_l3Digit_c,spec_l1Get_c,spec_l3No_c],58,[],[(0,[2,3,4,8,29,37,56,57]),(1,[2,3,4,5,8,29,37,56,57]),(2,[3,4,5,6,7,8,13,16,17,29,37,56,57]),(3,[3,4,5,6,7,8,13,16,17,29,37,56,57]),(4,[3,4,5,6,7,8,13,16,17,23,29,37,56,57]),(5,[3,4,5,6,7,8,13,16,17,23,24,29,37,56,57]),(6,[3,4,5,8,26,29,37,56,57]),(7,[4,8,29,37,56,57]),(8,[4,8,29,37,56,57]),(9,[4,8,29,37,56,57]),(10,[3,4,5,6,7,8,13,16,17,29,37,38,56,57]),(11,[3,4,5,6,7,8,13,16,17,29,37,56,57]),(12,[4,5,8,29,37,53,56,57]),(13,[4,8,29,37,56,57]),(14,[4,8,29,37,56,57])],[],[(12,[(1000003,[])])],[],[]⟩) tab_ok mixed Tryz.func242 rfl Tryz.ntmps242 (rvs:=[.cell 4 249]) Tryz.results242 rfl fun hl=>?_
 refine cast (show (let k_1:Prop:=(True/\(∀ (k:Nat),True/\True)/\(∀ (k:Nat),True/\True/\(∀ (k:Nat),True/\True)/\True)/\True)/\True;∃ (b:Int),let k_3:Prop:=cnRs (typ ByteArray.empty (fun (y:ByteArray)=>[CV.s y]) [(ByteArray.mk #[(115:UInt8)])++digS b])=t_S (inP s o).locks;let k_2:Prop:=∃ (b_2:List ByteArray),cnRs (frozenRs (typ ByteArray.empty (fun (y:ByteArray)=>[CV.s y]) [(ByteArray.mk #[(115:UInt8)])++digS b]))=t_S b_2/\b_2.length<=n_10/\k_1/\(noP b_2).ok=(inP s o).ok/\q_S (noP b_2).locks (inP s o).locks/\q_d (noP b_2).writes (inP s o).writes;o.inn=b/\(i_0<=b/\b<=i_9)/\(ByteArray.mk #[(115:UInt8)]).size+(digS b).size<=n_9223372036854775807/\(∃ (b_1:Sto×ByteArray),let k_9:Prop:=(!(getS b_1.1 b_1.2).isSome)=false;let k_8:Prop:=(!(getS b_1.1 b_1.2).isSome)=true->k_2;let k_7:Prop:=n_0<((getS b_1.1 b_1.2).getD []).length;let k_6:Prop:=i_0<=i_0/\i_0<(zi ((getS b_1.1 b_1.2).getD []).length);let k_5:Prop:=(((getS b_1.1 b_1.2).getD []).getD n_0 i_0 != o.who)=false;let k_4:Prop:=(((getS b_1.1 b_1.2).getD []).getD n_0 i_0 != o.who)=true->k_2;(q_a s b_1.1/\(ByteArray.mk #[(115:UInt8)])++digS b=b_1.2)/\small b_1.1/\((o.kind==i_1)=true->((getS b_1.1 b_1.2).isSome=true->k_2)/\((getS b_1.1 b_1.2).isSome=false->true=(inP s o).ok/\k_3/\cnRs (raw [[CV.s ((ByteArray.mk #[(115:UInt8)])++digS b),CV.b false,CV.ow n_3 (typ i_0 (fun (y:Int)=>[cn_ y]) [o.who])]])=t_d (inP s o).writes))/\((o.kind==i_1)=false->((o.kind==i_5)=true->(k_9->k_6/\k_7/\k_4/\(k_5->true=(inP s o).ok/\k_3/\cnRs (raw [[CV.s ((ByteArray.mk #[(115:UInt8)])++digS b),CV.b true,CV.ow n_3 nilR]])=t_d (inP s o).writes))/\k_8)/\((o.kind==i_5)=false->(k_9->k_6/\k_7/\k_4/\(k_5->true=(inP s o).ok/\k_3/\cnRs nilR=t_d (inP s o).writes))/\k_8))))=_ by kernel_rfl) ?_
 delta i_0 i_9 i_1 i_5 zi t_a q_a n_0 n_3 n_9223372036854775807 cn_ t_S t_d q_S q_d n_10
 have hn:=op_nums hpre.2
 have hs:=plc_small hpre.1
 have hg:=fun v=>get_in hpre.1 (k:=kd 115 o.inn) (v:=v)
 refine ⟨o.inn,rfl,by omega,show 1+1<=9223372036854775807 by omega,(s,kd 115 o.inn),⟨rfl,rfl⟩,hs,?_⟩
 rw [show (⟨#[115]⟩++digS o.inn:ByteArray)=kd 115 o.inn from rfl]
 simp only [inP,hasV,getV]
 rcases opt_cases (getS s (kd 115 o.inn)) with hk | ⟨v,hk⟩
 ·by_cases hkind:o.kind=1<;>simp [noP,hkind,hk]
 ·obtain ⟨a,rfl⟩:=List.length_eq_one_iff.1 (hg v hk)
  by_cases hkind:o.kind=1<;>by_cases h1:a=o.who<;>by_cases h5:o.kind=5<;>simp_all [noP]
def spec_l3In_c:Con Tryz.prog:=conP [.lend,.lend] fun (b:Sto×Opr) h=>spec_l3In_ok (b.1) (b.2) h
theorem spec_l3Trade_ok (s:Sto) (o:Opr) (hpre:plcB 2 s=true/\opOk o=true):FunOK Tryz.prog 250 2 [] [(0,kSto s),(1,kOp o)] (·=[(2,kPlan (tradeP s o))]):=by
 refine fun_to (E:=⟨tab,ctOf [spec_l3Digit_c,spec_l1Get_c,spec_l3No_c,spec_SecSum_c],67,[],[(0,[2,3,4,48,49,50,55,56,57,58,59,62,63,64,65,66]),(1,[2,3,4,5,48,49,50,55,56,57,58,59,62,63,64,65,66]),(2,[2,3,4,5,6,48,49,50,55,56,57,58,59,62,63,64,65,66]),(3,[2,3,4,5,6,7,8,19,22,23,48,49,50,55,56,57,58,59,62,63,64,65,66]),(4,[3,4,5,6,7,8,10,19,22,23,48,49,50,55,56,57,58,59,62,63,64,65,66]),(5,[4,5,6,7,19,22,23,44,48,49,50,55,56,57,58,59,62,63,64,65,66]),(6,[4,48,49,50,55,56,57,58,59,62,63,64,65,66]),(7,[4,48,49,50,55,56,57,58,59,62,63,64,65,66])],[],[],[],[]⟩) tab_ok mixed Tryz.func250 rfl Tryz.ntmps250 (rvs:=[.cell 4 249]) Tryz.results250 rfl fun hl=>?_
 refine cast (show (let k_1:Prop:=(True/\(∀ (k:Nat),True/\True)/\(∀ (k:Nat),True/\True/\(∀ (k:Nat),True/\True)/\True)/\True)/\True;∃ (b:Int),o.code=b/\(i_0<=b/\b<=i_9)/\(ByteArray.mk #[(99:UInt8)]).size+(digS b).size<=n_9223372036854775807/\(∃ (b_1:Int),let k_2:Prop:=∃ (b_4:List ByteArray),cnRs (frozenRs (typ ByteArray.empty (fun (y:ByteArray)=>[CV.s y]) [(ByteArray.mk #[(99:UInt8)])++digS b,(ByteArray.mk #[(102:UInt8)])++digS b_1]))=t_S b_4/\b_4.length<=n_10/\k_1/\(noP b_4).ok=(tradeP s o).ok/\q_S (noP b_4).locks (tradeP s o).locks/\q_d (noP b_4).writes (tradeP s o).writes;o.fam=b_1/\(i_0<=b_1/\b_1<=i_9)/\(ByteArray.mk #[(102:UInt8)]).size+(digS b_1).size<=n_9223372036854775807/\(∃ (b_2:Sto×ByteArray),let k_4:Prop:=n_0<((getS b_2.1 b_2.2).getD []).length;let k_3:Prop:=i_0<=i_0/\i_0<(zi ((getS b_2.1 b_2.2).getD []).length);(q_a s b_2.1/\(ByteArray.mk #[(99:UInt8)])++digS b=b_2.2)/\small b_2.1/\(∃ (b_3:Sto×ByteArray),(q_a s b_3.1/\(ByteArray.mk #[(102:UInt8)])++digS b_1=b_3.2)/\small b_3.1/\((!(getS b_2.1 b_2.2).isSome)=false->((getS b_3.1 b_3.2).isSome=false->(i_0<=i_1/\i_1<(zi ((getS b_2.1 b_2.2).getD []).length))/\n_1<((getS b_2.1 b_2.2).getD []).length/\(∃ (b_4:Int),o.sec=b_4/\((((getS b_2.1 b_2.2).getD []).getD n_1 i_0 != secB b_4)=true->∃ (b_5:List ByteArray),cnRs (frozenRs (typ ByteArray.empty (fun (y:ByteArray)=>[CV.s y]) [(ByteArray.mk #[(99:UInt8)])++digS b,(ByteArray.mk #[(102:UInt8)])++digS b_1]))=t_S b_5/\b_5.length<=n_10/\k_1/\(noP b_5).ok=(tradeP s o).ok/\q_S (noP b_5).locks (tradeP s o).locks/\q_d (noP b_5).writes (tradeP s o).writes)/\((((getS b_2.1 b_2.2).getD []).getD n_1 i_0 != secB b_4)=false->k_3/\k_4/\(∃ (b_5:Int),((getS b_2.1 b_2.2).getD []).getD n_0 i_0=b_5/\(i_0<=b_5/\b_5<=i_9)/\(ByteArray.mk #[(117:UInt8)]).size+(digS b_5).size<=n_9223372036854775807/\k_3/\k_4/\true=(tradeP s o).ok/\cnRs (typ ByteArray.empty (fun (y:ByteArray)=>[CV.s y]) [(ByteArray.mk #[(99:UInt8)])++digS b,(ByteArray.mk #[(102:UInt8)])++digS b_1,(ByteArray.mk #[(117:UInt8)])++digS b_5])=t_S (tradeP s o).locks/\cnRs (raw [[CV.s ((ByteArray.mk #[(99:UInt8)])++digS b),CV.b true,CV.ow n_3 nilR],[CV.s ((ByteArray.mk #[(102:UInt8)])++digS b_1),CV.b false,CV.ow n_3 (typ i_0 (fun (y:Int)=>[cn_ y]) [((getS b_2.1 b_2.2).getD []).getD n_0 i_0,i_1,i_1])]])=t_d (tradeP s o).writes))))/\((getS b_3.1 b_3.2).isSome=true->k_2))/\((!(getS b_2.1 b_2.2).isSome)=true->k_2)))))=_ by kernel_rfl) ?_
 delta i_0 i_9 i_1 zi t_a q_a n_0 n_1 n_3 n_9223372036854775807 cn_ t_S t_d q_S q_d n_10
 have hn:=op_nums hpre.2
 have hs:=plc_small hpre.1
 have hg:=fun v=>get_code hpre.1 (n:=o.code) (v:=v)
 refine ⟨o.code,rfl,by omega,show 1+1<=9223372036854775807 by omega,o.fam,rfl,by omega,show 1+1<=9223372036854775807 by omega,(s,kd 99 o.code),⟨rfl,rfl⟩,hs,(s,kd 102 o.fam),⟨rfl,rfl⟩,hs,?_⟩
 rw [show (⟨#[99]⟩++digS o.code:ByteArray)=kd 99 o.code from rfl,show (⟨#[102]⟩++digS o.fam:ByteArray)=kd 102 o.fam from rfl]
 simp only [tradeP,hasV,getV]
 rcases opt_cases (getS s (kd 99 o.code)) with hk | ⟨v,hk⟩
 ·simp [noP,hk]
 ·obtain ⟨g1,g2⟩:=hg v hk
  obtain ⟨a,b,rfl⟩:=len2 g1
  simp at g2
  rcases opt_cases (getS s (kd 102 o.fam)) with hf | ⟨u,hf⟩
  case inr=>simp [noP,hk,hf]
  by_cases h1:b=secB o.sec<;>simp [noP,hk,hf,h1,g2,digS_size,show (ByteArray.mk #[117]).size=1 from rfl]<;>rfl
def spec_l3Trade_c:Con Tryz.prog:=conP [.lend,.lend] fun (b:Sto×Opr) h=>spec_l3Trade_ok (b.1) (b.2) h
theorem spec_l3Next_ok (s:Sto) (o:Opr) (hpre:plcB 2 s=true/\opOk o=true):FunOK Tryz.prog 251 2 [] [(0,kSto s),(1,kOp o)] (·=[(2,kPlan (nextP s o))]):=by
 refine fun_to (E:=⟨tab,ctOf [spec_l3Digit_c,spec_l1Get_c,spec_l3No_c],82,[],[(0,[2,3,4,8,48,51,55,56,65,68,69,70,75,76,77,78,79,80,81]),(1,[2,3,4,5,8,48,51,55,56,65,68,69,70,75,76,77,78,79,80,81]),(2,[3,4,5,6,7,8,13,16,17,48,51,55,56,65,68,69,70,75,76,77,78,79,80,81]),(3,[3,4,5,6,8,13,16,17,45,48,51,55,56,65,68,69,70,75,76,77,78,79,80,81]),(4,[4,8,48,51,55,56,65,68,69,70,75,76,77,78,79,80,81]),(5,[3,4,5,6,8,13,16,17,48,51,55,56,65,68,69,70,75,76,77,78,79,80,81]),(6,[4,5,6,8,13,16,17,48,51,55,56,62,65,68,69,70,75,76,77,78,79,80,81]),(7,[4,5,6,8,13,16,17,48,51,55,56,65,68,69,70,75,76,77,78,79,80,81]),(8,[4,8,48,51,55,56,65,68,69,70,75,76,77,78,79,80,81])],[],[(8,[(1000001,[]),(1000008,[])])],[],[]⟩) tab_ok mixed Tryz.func251 rfl Tryz.ntmps251 (rvs:=[.cell 4 249]) Tryz.results251 rfl fun hl=>?_
 refine cast (show (let k_1:Prop:=(True/\(∀ (k:Nat),True/\True)/\(∀ (k:Nat),True/\True/\(∀ (k:Nat),True/\True)/\True)/\True)/\True;∃ (b:Int),let k_2:Prop:=∃ (b_2:List ByteArray),cnRs (frozenRs (typ ByteArray.empty (fun (y:ByteArray)=>[CV.s y]) [(ByteArray.mk #[(102:UInt8)])++digS b]))=t_S b_2/\b_2.length<=n_10/\k_1/\(noP b_2).ok=(nextP s o).ok/\q_S (noP b_2).locks (nextP s o).locks/\q_d (noP b_2).writes (nextP s o).writes;o.fam=b/\(i_0<=b/\b<=i_9)/\(ByteArray.mk #[(102:UInt8)]).size+(digS b).size<=n_9223372036854775807/\(∃ (b_1:Sto×ByteArray),let k_6:Prop:=n_0<((getS b_1.1 b_1.2).getD []).length;let k_5:Prop:=n_1<((getS b_1.1 b_1.2).getD []).length;let k_4:Prop:=i_0<=i_0/\i_0<(zi ((getS b_1.1 b_1.2).getD []).length);let k_3:Prop:=i_0<=i_1/\i_1<(zi ((getS b_1.1 b_1.2).getD []).length);(q_a s b_1.1/\(ByteArray.mk #[(102:UInt8)])++digS b=b_1.2)/\small b_1.1/\((!(getS b_1.1 b_1.2).isSome)=false->(i_0<=i_2/\i_2<(zi ((getS b_1.1 b_1.2).getD []).length))/\n_2<((getS b_1.1 b_1.2).getD []).length/\((((getS b_1.1 b_1.2).getD []).getD n_2 i_0==i_0)=false->k_3/\k_5/\(decide (o.gen>((getS b_1.1 b_1.2).getD []).getD n_1 i_0)=false->((o.gen==i_0)=false->k_3/\k_5/\((((getS b_1.1 b_1.2).getD []).getD n_1 i_0==i_99)=true->k_2)/\((((getS b_1.1 b_1.2).getD []).getD n_1 i_0==i_99)=false->k_4/\k_6/\k_3/\k_5/\k_3/\k_5/\(decide (o.gen<((getS b_1.1 b_1.2).getD []).getD n_1 i_0)=true->k_4/\k_6/\k_3/\k_5/\k_4/\k_6/\(∃ (b_2:Int),((getS b_1.1 b_1.2).getD []).getD n_0 i_0=b_2/\(i_0<=b_2/\b_2<=i_9)/\(ByteArray.mk #[(117:UInt8)]).size+(digS b_2).size<=n_9223372036854775807/\true=(nextP s o).ok/\cnRs (typ ByteArray.empty (fun (y:ByteArray)=>[CV.s y]) [(ByteArray.mk #[(102:UInt8)])++digS b,(ByteArray.mk #[(117:UInt8)])++digS b_2])=t_S (nextP s o).locks/\cnRs (raw [[CV.s ((ByteArray.mk #[(102:UInt8)])++digS b),CV.b false,CV.ow n_3 (typ i_0 (fun (y:Int)=>[cn_ y]) [((getS b_1.1 b_1.2).getD []).getD n_0 i_0,((getS b_1.1 b_1.2).getD []).getD n_1 i_0,i_0])]])=t_d (nextP s o).writes))/\(decide (o.gen<((getS b_1.1 b_1.2).getD []).getD n_1 i_0)=false->k_4/\k_6/\(∃ (b_2:Int),((getS b_1.1 b_1.2).getD []).getD n_0 i_0=b_2/\(i_0<=b_2/\b_2<=i_9)/\(ByteArray.mk #[(117:UInt8)]).size+(digS b_2).size<=n_9223372036854775807/\true=(nextP s o).ok/\cnRs (typ ByteArray.empty (fun (y:ByteArray)=>[CV.s y]) [(ByteArray.mk #[(102:UInt8)])++digS b,(ByteArray.mk #[(117:UInt8)])++digS b_2])=t_S (nextP s o).locks/\cnRs (raw [[CV.s ((ByteArray.mk #[(102:UInt8)])++digS b),CV.b false,CV.ow n_3 (typ i_0 (fun (y:Int)=>[cn_ y]) [((getS b_1.1 b_1.2).getD []).getD n_0 i_0,wr_ (((getS b_1.1 b_1.2).getD []).getD n_1 i_0+i_1),i_1])]])=t_d (nextP s o).writes))))/\((o.gen==i_0)=true->k_2))/\(decide (o.gen>((getS b_1.1 b_1.2).getD []).getD n_1 i_0)=true->k_2))/\((((getS b_1.1 b_1.2).getD []).getD n_2 i_0==i_0)=true->k_2))/\((!(getS b_1.1 b_1.2).isSome)=true->k_2)))=_ by kernel_rfl) ?_
 delta i_0 i_9 i_99 i_1 i_2 wr_ zi t_a q_a n_0 n_1 n_3 n_9223372036854775807 cn_ t_S t_d q_S q_d n_10 n_2
 have hn:=op_nums hpre.2
 have hs:=plc_small hpre.1
 have hg:=fun v=>get_fam hpre.1 (n:=o.fam) (v:=v)
 refine ⟨o.fam,rfl,by omega,show 1+1<=9223372036854775807 by omega,(s,kd 102 o.fam),⟨rfl,rfl⟩,hs,?_⟩
 rw [show (⟨#[102]⟩++digS o.fam:ByteArray)=kd 102 o.fam from rfl]
 simp only [nextP,hasV,getV]
 rcases opt_cases (getS s (kd 102 o.fam)) with hk | ⟨v,hk⟩
 ·simp [noP,hk]
 ·obtain ⟨g1,g2⟩:=hg v hk
  obtain ⟨a,b,c,rfl⟩:=len3 g1
  simp at g2
  by_cases h1:c=0
  ·simp [noP,hk,h1]
  by_cases h2:b<o.gen
  ·simp [noP,hk,h1,h2]
  by_cases h3:o.gen=0
  ·simp [noP,hk,h1,h2,h3]
  by_cases h4:b=99
  ·simp [noP,hk,h1,h2,h3,h4]
  by_cases h5:o.gen<b<;>simp [noP,hk,h1,h2,h3,h4,h5,g2,digS_size,show (ByteArray.mk #[117]).size=1 from rfl,IntWalk.i64_in (b+1) (by omega)]<;>rfl
def spec_l3Next_c:Con Tryz.prog:=conP [.lend,.lend] fun (b:Sto×Opr) h=>spec_l3Next_ok (b.1) (b.2) h
theorem spec_l3Out_ok (s:Sto) (o:Opr) (hpre:plcB 2 s=true/\opOk o=true):FunOK Tryz.prog 252 2 [] [(0,kSto s),(1,kOp o)] (·=[(2,kPlan (outP s o))]):=by
 refine fun_to (E:=⟨tab,ctOf [spec_l3Digit_c],71,[],[(0,[2,3,4,5,70]),(1,[2,3,4,5,70]),(2,[2,3,4,5,6,70]),(3,[2,3,4,5,6,18,70]),(4,[2,3,4,5,6,70]),(5,[2,3,4,5,6,7,70]),(6,[2,3,4,5,6,7,45,70]),(7,[2,3,4,5,6,7,70]),(8,[2,3,4,5,6,70]),(9,[4,5,70])],[(0,⟨List ByteArray×List Wrt×Nat,fun x=>[(2,⟨.box,[.c (.sh 263 (typ dItem eItemS s))],[]⟩),(3,⟨.box,[.c (.n .i64 o.kind),.c (.n .i64 o.who),.c (.n .i64 o.inn),.c (.n .i64 o.code),.c (.n .i64 o.sec),.c (.n .i64 o.fam),.c (.n .i64 o.gen)],[]⟩),(4,⟨.box,[.c (.b false),.c (.ow 9 nilR),.c (.ow 102 nilR)],[]⟩),(5,⟨.box,[.c (.b true),.c (oS (x.1)),.c (oWrts (x.2.1))],[]⟩),(6,(k1 (.n .i64 (x.2.2:Int))))]⟩)],[],[],[]⟩) tab_ok mixed Tryz.func252 rfl Tryz.ntmps252 (rvs:=[.cell 4 249]) Tryz.results252 rfl fun hl=>?_
 refine cast (show (let k_2:Prop:=false=false/\cnRs nilR=cnRs nilR/\cnRs nilR=cnRs nilR;let k_1:Prop:=o.kind=o.kind/\o.who=o.who/\o.inn=o.inn/\o.code=o.code/\o.sec=o.sec/\o.fam=o.fam/\o.gen=o.gen;∃ (b:Int),o.who=b/\(i_0<=b/\b<=i_9)/\(ByteArray.mk #[(117:UInt8)]).size+(digS b).size<=n_9223372036854775807/\(∃ (pre:y_3->Prop),∃ (μ:y_3->Nat),∃ (x0:y_3),(q_a s s/\k_1/\k_2/\(true=true/\cnRs (typ ByteArray.empty (fun (y:ByteArray)=>[CV.s y]) [(ByteArray.mk #[(117:UInt8)])++digS b])=t_S x0.1/\cnRs nilR=t_d x0.2.1)/\i_0=zi x0.2.2)/\pre x0/\(∀ (x:y_3),let k_4:Prop:=i_0<=i_0/\i_0<(zi (List.getD s (zi x.2.2).toNat dItem).val.length);let k_3:Prop:=∃ (y:y_3),(q_a s s/\k_1/\k_2/\(true=true/\q_S x.1 y.1/\q_d x.2.1 y.2.1)/\wr_ ((zi x.2.2)+i_1)=zi y.2.2)/\pre y/\μ y<μ x;pre x->(decide (zi x.2.2<(zi (List.length s)))=true->(i_0<=zi x.2.2/\zi x.2.2<(zi (List.length s)))/\(i_0<=i_0/\i_0<(zi (List.getD s (zi x.2.2).toNat dItem).key.size))/\((byteAt (List.getD s (zi x.2.2).toNat dItem).key (Int.toNat i_0)==i_102)=true->k_4/\(((List.getD s (zi x.2.2).toNat dItem).val.getD (Int.toNat i_0) i_0==o.who)=true->(i_0<=i_2/\i_2<(zi (List.getD s (zi x.2.2).toNat dItem).val.length))/\(((List.getD s (zi x.2.2).toNat dItem).val.getD (Int.toNat i_2) i_0==i_1)=true->(x.1.length+n_1)*n_16<=n_140737488355328/\k_4/\(i_0<=i_1/\i_1<(zi (List.getD s (zi x.2.2).toNat dItem).val.length))/\(x.2.1.length+n_1)*n_48<=n_140737488355328/\(∃ (y:y_3),(q_a s s/\k_1/\k_2/\(true=true/\cnRs (appR (typ ByteArray.empty eS x.1) (typ ByteArray.empty (fun (y:ByteArray)=>[CV.s y]) [(List.getD s (zi x.2.2).toNat dItem).key]))=t_S y.1/\cnRs (appR (typ dWrt eWrtO x.2.1) (raw [[CV.s (List.getD s (zi x.2.2).toNat dItem).key,CV.b false,CV.ow n_3 (typ i_0 (fun (y:Int)=>[cn_ y]) [(List.getD s (zi x.2.2).toNat dItem).val.getD (Int.toNat i_0) i_0,(List.getD s (zi x.2.2).toNat dItem).val.getD (Int.toNat i_1) i_0,i_0])]]))=t_d y.2.1)/\wr_ ((zi x.2.2)+i_1)=zi y.2.2)/\pre y/\μ y<μ x))/\(((List.getD s (zi x.2.2).toNat dItem).val.getD (Int.toNat i_2) i_0==i_1)=false->k_3))/\(((List.getD s (zi x.2.2).toNat dItem).val.getD (Int.toNat i_0) i_0==o.who)=false->k_3))/\((byteAt (List.getD s (zi x.2.2).toNat dItem).key (Int.toNat i_0)==i_102)=false->k_3))/\(decide (zi x.2.2<(zi (List.length s)))=false->true=(outP s o).ok/\q_S x.1 (outP s o).locks/\q_d x.2.1 (outP s o).writes))))=_ by kernel_rfl) ?_
 delta i_0 i_9 i_1 i_2 wr_ zi t_a q_a n_140737488355328 n_1 n_3 n_9223372036854775807 cn_ t_S t_d n_16 q_S q_d i_102 n_48 y_3
 have hn:=op_nums hpre.2
 have hs:=plc_small hpre.1
 have hx:=hs.1
 refine ⟨o.who,rfl,by omega,show 1+1<=9223372036854775807 by omega,?_⟩
 rw [show (⟨#[117]⟩++digS o.who:ByteArray)=kd 117 o.who from rfl]
 refine ⟨fun x=>x.2.2<=s.length/\x.1=kd 117 o.who::((s.take x.2.2).filter (outI o)).map (·.key)/\x.2.1=((s.take x.2.2).filter (outI o)).map outW/\x.1.length<=x.2.2+1/\x.2.1.length<=x.2.2,fun x=>s.length-x.2.2,([kd 117 o.who],[],0),by simp,by simp,fun x hp=>?_⟩
 obtain ⟨h1,h2,h3,h4,h5⟩:=hp
 refine ⟨fun hl0=>?_,fun hge=>?_⟩
 ·have hlt:=ylt hl0
  clear hl0
  have hf:=filter_succ (p:=outI o) hlt (d:=dItem)
  have hm:s.getD x.2.2 dItem∈s:=by rw [getD_lt hlt];exact List.getElem_mem hlt
  simp only [Int.toNat_natCast]
  generalize s.getD x.2.2 dItem=it at hf hm ⊢
  have hk:=sto_key (plc_sto hpre.1) hm
  have hv:=sto_val (plc_sto hpre.1) hm
  have hw:=IntWalk.i64_in ((x.2.2:Int)+1) (by omega)
  have no:outI o it=false->∃ (y:List ByteArray×List Wrt×Nat),y=(x.1,x.2.1,x.2.2+1)/\(y.2.2<=s.length/\y.1=kd 117 o.who::((s.take y.2.2).filter (outI o)).map (·.key)/\y.2.1=((s.take y.2.2).filter (outI o)).map outW/\y.1.length<=y.2.2+1/\y.2.1.length<=y.2.2)/\s.length-y.2.2<s.length-x.2.2:=fun hp=>by
   refine ⟨_,rfl,⟨by simp only;omega,?_,?_,by simp only;omega,by simp only;omega⟩,muN hlt⟩
   ·simp only [hf,hp];simpa using h2
   ·simp only [hf,hp];simpa using h3
  refine ⟨⟨by omega,by omega⟩,⟨by omega,by omega⟩,fun a=>⟨⟨by omega,by omega⟩,fun b=>?_,fun b=>?_⟩,fun a=>?_⟩
  ·have h3l:it.val.length=3:=by
    have hform:=plc_form hpre.1 hm
    simp only [beq_iff_eq,Int.toNat_zero] at a
    simp [formI,a] at hform
    omega
   refine ⟨⟨by omega,by omega⟩,fun c=>⟨by omega,⟨by omega,by omega⟩,⟨by omega,by omega⟩,by omega,(x.1++[it.key],x.2.1++[outW it],x.2.2+1),?_,⟨by simp only;omega,?_,?_,by simp;omega,by simp;omega⟩,muN hlt⟩,fun c=>?_⟩
   ·simp [hw,outW]
   ·simp only [hf];simp_all [outI]
   ·simp only [hf];simp_all [outI]
   ·obtain ⟨y,rfl,e2,e3⟩:=no (by simp_all [outI])
    exact ⟨_,by simp [hw],e2,e3⟩
  ·obtain ⟨y,rfl,e2,e3⟩:=no (by simp_all [outI])
   exact ⟨_,by simp [hw],e2,e3⟩
  ·obtain ⟨y,rfl,e2,e3⟩:=no (by simp_all [outI])
   exact ⟨_,by simp [hw],e2,e3⟩
 ·have:x.2.2=s.length:=by have:=nlt hge;omega
  rw [this,List.take_length] at h2 h3
  simp [outP,h2,h3]
def spec_l3Out_c:Con Tryz.prog:=conP [.lend,.lend] fun (b:Sto×Opr) h=>spec_l3Out_ok (b.1) (b.2) h
theorem spec_l3May_ok (s:Sto) (o:Opr) (hpre:plcB 2 s=true/\opOk o=true):FunOK Tryz.prog 243 2 [] [(0,kSto s),(1,kOp o)] (·=[(2,kPlan (mayP s o))]):=by
 refine fun_to (E:=⟨tab,ctOf [spec_l3Digit_c,spec_l1Get_c,spec_l3No_c,spec_SecSum_c,spec_l3Trade_c,spec_l3Next_c,spec_l3Out_c],51,[],[(0,[2,3,4,25,26,27,28,30,33,34,35,36,37,42,47,50]),(1,[2,3,4,9,25,26,27,28,30,33,34,35,36,37,42,47,50]),(2,[2,3,4,9,10,25,26,27,28,30,33,34,35,36,37,42,47,50]),(3,[2,3,4,5,25,26,27,28,30,33,34,35,36,37,42,47,50]),(4,[3,4,5,7,25,26,27,28,30,33,34,35,36,37,42,47,50]),(5,[3,4,5,22,25,26,27,28,30,33,34,35,36,37,42,47,50]),(6,[4,25,26,27,28,30,33,34,35,36,37,42,47,50]),(7,[4,25,26,27,28,30,33,34,35,36,37,42,47,50]),(8,[2,3,4,9,25,26,27,28,30,33,34,35,36,37,38,42,47,50]),(9,[4,25,26,27,28,30,33,34,35,36,37,42,47,50]),(10,[2,3,4,25,26,27,28,30,33,34,35,36,37,42,43,47,50]),(11,[4,25,26,27,28,30,33,34,35,36,37,42,47,50]),(12,[4,25,26,27,28,30,33,34,35,36,37,42,47,50])],[],[],[],[]⟩) tab_ok mixed Tryz.func243 rfl Tryz.ntmps243 (rvs:=[.cell 4 249]) Tryz.results243 rfl fun hl=>?_
 refine cast (show (((o.kind==i_2)=true->∃ (b:Int),o.code=b/\(i_0<=b/\b<=i_9)/\(ByteArray.mk #[(99:UInt8)]).size+(digS b).size<=n_9223372036854775807/\∃ (b_1:Sto×ByteArray),(q_a s b_1.1/\(ByteArray.mk #[(99:UInt8)])++digS b=b_1.2)/\small b_1.1/\((getS b_1.1 b_1.2).isSome=true->∃ (b_2:List ByteArray),cnRs (frozenRs (typ ByteArray.empty (fun (y:ByteArray)=>[CV.s y]) [(ByteArray.mk #[(99:UInt8)])++digS b]))=t_S b_2/\b_2.length<=n_10/\((True/\(∀ (k:Nat),True/\True)/\(∀ (k:Nat),True/\True/\(∀ (k:Nat),True/\True)/\True)/\True)/\True)/\(noP b_2).ok=(mayP s o).ok/\q_S (noP b_2).locks (mayP s o).locks/\q_d (noP b_2).writes (mayP s o).writes)/\((getS b_1.1 b_1.2).isSome=false->∃ (b_2:Int),o.sec=b_2/\true=(mayP s o).ok/\cnRs (typ ByteArray.empty (fun (y:ByteArray)=>[CV.s y]) [(ByteArray.mk #[(99:UInt8)])++digS b])=t_S (mayP s o).locks/\cnRs (raw [[CV.s ((ByteArray.mk #[(99:UInt8)])++digS b),CV.b false,CV.ow n_3 (typ i_0 (fun (y:Int)=>[cn_ y]) [o.who,secB b_2])]])=t_d (mayP s o).writes))/\((o.kind==i_2)=false->((o.kind==i_3)=true->∃ (b:Sto×Opr),(q_a s b.1/\o.kind=b.2.kind/\o.who=b.2.who/\o.inn=b.2.inn/\o.code=b.2.code/\o.sec=b.2.sec/\o.fam=b.2.fam/\o.gen=b.2.gen)/\(plcB i_2 b.1=true/\opOk b.2=true)/\(tradeP b.1 b.2).ok=(mayP s o).ok/\q_S (tradeP b.1 b.2).locks (mayP s o).locks/\q_d (tradeP b.1 b.2).writes (mayP s o).writes)/\((o.kind==i_3)=false->((o.kind==i_4)=true->∃ (b:Sto×Opr),(q_a s b.1/\o.kind=b.2.kind/\o.who=b.2.who/\o.inn=b.2.inn/\o.code=b.2.code/\o.sec=b.2.sec/\o.fam=b.2.fam/\o.gen=b.2.gen)/\(plcB i_2 b.1=true/\opOk b.2=true)/\(nextP b.1 b.2).ok=(mayP s o).ok/\q_S (nextP b.1 b.2).locks (mayP s o).locks/\q_d (nextP b.1 b.2).writes (mayP s o).writes)/\((o.kind==i_4)=false->∃ (b:Sto×Opr),(q_a s b.1/\o.kind=b.2.kind/\o.who=b.2.who/\o.inn=b.2.inn/\o.code=b.2.code/\o.sec=b.2.sec/\o.fam=b.2.fam/\o.gen=b.2.gen)/\(plcB i_2 b.1=true/\opOk b.2=true)/\(outP b.1 b.2).ok=(mayP s o).ok/\q_S (outP b.1 b.2).locks (mayP s o).locks/\q_d (outP b.1 b.2).writes (mayP s o).writes))))=_ by kernel_rfl) ?_
 delta i_0 i_9 i_2 i_3 i_4 t_a q_a n_3 n_9223372036854775807 cn_ t_S t_d q_S q_d n_10
 have hn:=op_nums hpre.2
 have hs:=plc_small hpre.1
 refine ⟨fun h2=>⟨o.code,rfl,by omega,show 1+1<=9223372036854775807 by omega,(s,kd 99 o.code),⟨rfl,rfl⟩,hs,?_⟩,fun h2=>⟨fun h3=>⟨(s,o),⟨rfl,rfl,rfl,rfl,rfl,rfl,rfl,rfl⟩,hpre,?_⟩,fun h3=>⟨fun h4=>⟨(s,o),⟨rfl,rfl,rfl,rfl,rfl,rfl,rfl,rfl⟩,hpre,?_⟩,fun h4=>⟨(s,o),⟨rfl,rfl,rfl,rfl,rfl,rfl,rfl,rfl⟩,hpre,?_⟩⟩⟩⟩
 ·rw [show (⟨#[99]⟩++digS o.code:ByteArray)=kd 99 o.code from rfl]
  simp only [beq_iff_eq] at h2
  simp only [mayP,h2,if_true,hasV]
  rcases opt_cases (getS s (kd 99 o.code)) with hk | ⟨v,hk⟩<;>simp [noP,hk]
 all_goals simp_all [mayP]
def spec_l3May_c:Con Tryz.prog:=conP [.lend,.lend] fun (b:Sto×Opr) h=>spec_l3May_ok (b.1) (b.2) h
theorem spec_l3Form_ok (p:Int) (s:Sto) (hpre:stoB s=true):FunOK Tryz.prog 241 2 [] [(0,kI p),(1,kSto s)] (·=[(2,kB (formB p s))]):=by
 refine fun_to (E:=⟨tab,ctOf [spec_l1In_c],110,[],[(0,[0,3]),(1,[0,3,5]),(2,[0,3,5,15]),(3,[0,3,5]),(4,[0,3,5,6]),(5,[0,3,5,6,7]),(6,[0,3,5,6,7,8]),(7,[0,3,5,6,7,8,9]),(8,[0,3,5,6,7,8,9,10]),(9,[0,3,5,6,7,10]),(10,[0,3,5,109]),(11,[4]),(12,[4])],[(0,⟨Nat,fun x=>[(0,(k1 (.n .i64 p))),(3,⟨.box,[.c (.sh 263 (typ dItem eItemS s))],[]⟩),(5,(k1 (.n .i64 (x:Int))))]⟩)],[],[(8,⟨Nat×ByteArray×List Int×Int×Int×Int×Bool,fun x=>[(0,(k1 (.n .i64 p))),(3,⟨.box,[.c (.sh 263 (typ dItem eItemS s))],[]⟩),(5,(k1 (.n .i64 (x.1:Int)))),(6,⟨.box,[.c (.s (x.2.1)),.c (sI (x.2.2.1))],[]⟩),(7,(k1 (.n IntKind.u8 (x.2.2.2.1)))),(8,(k1 (.n .i64 (x.2.2.2.2.1)))),(9,(k1 (.n .i64 (x.2.2.2.2.2.1)))),(10,(k1 (.b (x.2.2.2.2.2.2))))]⟩),(9,⟨Nat×ByteArray×List Int×Int×Bool,fun x=>[(0,(k1 (.n .i64 p))),(3,⟨.box,[.c (.sh 263 (typ dItem eItemS s))],[]⟩),(5,(k1 (.n .i64 (x.1:Int)))),(6,⟨.box,[.c (.s (x.2.1)),.c (sI (x.2.2.1))],[]⟩),(7,(k1 (.n IntKind.u8 (x.2.2.2.1)))),(10,(k1 (.b (x.2.2.2.2))))]⟩),(10,⟨Nat×Bool,fun x=>[(0,(k1 (.n .i64 p))),(3,⟨.box,[.c (.sh 263 (typ dItem eItemS s))],[]⟩),(5,(k1 (.n .i64 (x.1:Int)))),(109,(k1 (.b (x.2))))]⟩)],[]⟩) tab_ok mixed Tryz.func241 rfl Tryz.ntmps241 (rvs:=[.tmp 4]) Tryz.results241 rfl fun hl=>?_
 refine cast (show (∃ (pre:Nat->Prop),∃ (μ:Nat->Nat),∃ (x0:Nat),(p=p/\q_a s s/\i_0=zi x0)/\pre x0/\(∀ (x:Nat),let k_2:Prop:=(byteAt (List.getD s (zi x).toNat dItem).key (Int.toNat i_0)==i_97)=true;let k_1:Prop:=(byteAt (List.getD s (zi x).toNat dItem).key (Int.toNat i_0)==i_97)=false;pre x->(decide (zi x<(zi (List.length s)))=true->(i_0<=zi x/\zi x<(zi (List.length s)))/\(i_0<=i_0/\i_0<(zi (List.getD s (zi x).toNat dItem).key.size))/\(i_0<=i_0/\i_0<(zi (List.getD s (zi x).toNat dItem).val.length))/\(∃ (post:y_4->Prop),let k_4:Prop:=∃ (x_1:y_4),(p=p/\q_a s s/\zi x=zi x_1.1/\((List.getD s (zi x).toNat dItem).key=x_1.2.1/\q_I (List.getD s (zi x).toNat dItem).val x_1.2.2.1)/\byteAt (List.getD s (zi x).toNat dItem).key (Int.toNat i_0)=x_1.2.2.2.1/\(zi (List.getD s (zi x).toNat dItem).val.length)=x_1.2.2.2.2.1/\(List.getD s (zi x).toNat dItem).val.getD (Int.toNat i_0) i_0=x_1.2.2.2.2.2.1/\false=x_1.2.2.2.2.2.2)/\post x_1;let k_3:Prop:=((p==i_3)=true->(k_2->∃ (x_1:y_4),(p=p/\q_a s s/\zi x=zi x_1.1/\((List.getD s (zi x).toNat dItem).key=x_1.2.1/\q_I (List.getD s (zi x).toNat dItem).val x_1.2.2.1)/\byteAt (List.getD s (zi x).toNat dItem).key (Int.toNat i_0)=x_1.2.2.2.1/\(zi (List.getD s (zi x).toNat dItem).val.length)=x_1.2.2.2.2.1/\(List.getD s (zi x).toNat dItem).val.getD (Int.toNat i_0) i_0=x_1.2.2.2.2.2.1/\((zi (List.getD s (zi x).toNat dItem).val.length)==i_1)=x_1.2.2.2.2.2.2)/\post x_1)/\(k_1->k_4))/\((p==i_3)=false->k_4);(((p==i_1)=true->((byteAt (List.getD s (zi x).toNat dItem).key (Int.toNat i_0)==i_115)=true->(((zi (List.getD s (zi x).toNat dItem).val.length)==i_1)=true->(decide ((List.getD s (zi x).toNat dItem).val.getD (Int.toNat i_0) i_0<=i_9)=false->k_3)/\(decide ((List.getD s (zi x).toNat dItem).val.getD (Int.toNat i_0) i_0<=i_9)=true->∃ (x_1:y_4),(p=p/\q_a s s/\zi x=zi x_1.1/\((List.getD s (zi x).toNat dItem).key=x_1.2.1/\q_I (List.getD s (zi x).toNat dItem).val x_1.2.2.1)/\byteAt (List.getD s (zi x).toNat dItem).key (Int.toNat i_0)=x_1.2.2.2.1/\(zi (List.getD s (zi x).toNat dItem).val.length)=x_1.2.2.2.2.1/\(List.getD s (zi x).toNat dItem).val.getD (Int.toNat i_0) i_0=x_1.2.2.2.2.2.1/\true=x_1.2.2.2.2.2.2)/\post x_1))/\(((zi (List.getD s (zi x).toNat dItem).val.length)==i_1)=false->k_3))/\((byteAt (List.getD s (zi x).toNat dItem).key (Int.toNat i_0)==i_115)=false->k_3))/\((p==i_1)=false->k_3))/\(∀ (x_1:y_4),let k_6:Prop:=i_0<=i_1/\i_1<zi x_1.2.2.1.length;let k_5:Prop:=i_0<=i_2/\i_2<zi x_1.2.2.1.length;post x_1->∃ (post:y_5->Prop),let k_9:Prop:=∃ (x:y_5),(p=p/\q_a s s/\zi x_1.1=zi x.1/\(x_1.2.1=x.2.1/\q_I x_1.2.2.1 x.2.2.1)/\x_1.2.2.2.1=x.2.2.2.1/\true=x.2.2.2.2)/\post x;let k_8:Prop:=∃ (x:y_5),(p=p/\q_a s s/\zi x_1.1=zi x.1/\(x_1.2.1=x.2.1/\q_I x_1.2.2.1 x.2.2.1)/\x_1.2.2.2.1=x.2.2.2.1/\false=x.2.2.2.2)/\post x;let k_7:Prop:=((x_1.2.2.2.1==i_102)=true->((x_1.2.2.2.2.1==i_3)=true->k_6/\(∃ (b:Int×Int×Int),(x_1.2.2.1.getD (Int.toNat i_1) i_0=b.1/\i_1=b.2.1/\i_99=b.2.2)/\(inR b.1 b.2.1 b.2.2=true->k_5/\(∃ (x:y_5),(p=p/\q_a s s/\zi x_1.1=zi x.1/\(x_1.2.1=x.2.1/\q_I x_1.2.2.1 x.2.2.1)/\x_1.2.2.2.1=x.2.2.2.1/\decide (x_1.2.2.1.getD (Int.toNat i_2) i_0<=i_1)=x.2.2.2.2)/\post x))/\(inR b.1 b.2.1 b.2.2=false->k_8)))/\((x_1.2.2.2.2.1==i_3)=false->k_8))/\((x_1.2.2.2.1==i_102)=false->k_8);((x_1.2.2.2.2.2.2=false->((p==i_2)=true->(decide (x_1.2.2.2.2.2.1<=i_9)=true->((x_1.2.2.2.1==i_99)=true->((x_1.2.2.2.2.1==i_2)=false->k_7)/\((x_1.2.2.2.2.1==i_2)=true->k_9))/\((x_1.2.2.2.1==i_99)=false->k_7))/\(decide (x_1.2.2.2.2.2.1<=i_9)=false->k_8))/\((p==i_2)=false->k_8))/\(x_1.2.2.2.2.2.2=true->k_9))/\(∀ (x_2:y_5),post x_2->∃ (post:Nat×Bool->Prop),(((!x_2.2.2.2.2)=false->((x_2.2.2.2.1 != i_97)=true->∃ (x:Nat×Bool),(p=p/\q_a s s/\zi x_2.1=zi x.1/\((zi x_2.2.1.size) != i_2)=x.2)/\post x)/\((x_2.2.2.2.1 != i_97)=false->∃ (x:Nat×Bool),(p=p/\q_a s s/\zi x_2.1=zi x.1/\false=x.2)/\post x))/\((!x_2.2.2.2.2)=true->∃ (x:Nat×Bool),(p=p/\q_a s s/\zi x_2.1=zi x.1/\true=x.2)/\post x))/\(∀ (x_3:Nat×Bool),post x_3->(x_3.2=true->false=formB p s)/\(x_3.2=false->∃ (y:Nat),(p=p/\q_a s s/\wr_ ((zi x_3.1)+i_1)=zi y)/\pre y/\μ y<μ x))))))/\(decide (zi x<(zi (List.length s)))=false->true=formB p s)))=_ by kernel_rfl) ?_
 delta i_0 i_9 i_99 i_1 i_2 i_3 wr_ zi t_I q_I i_97 t_a q_a i_102 i_115 y_4 y_5
 have hx:s.length<=1000:=(small_of (stoB_small hpre)).1
 refine ⟨fun i=>i<=s.length/\∀ j,j<i->formI p (s.getD j dItem)=true,fun i=>s.length-i,0,by simp,by simp,fun x hp=>?_⟩
 obtain ⟨h1,h2⟩:=hp
 refine ⟨fun hl0=>?_,fun hge=>?_⟩
 ·have hlt:=ylt hl0
  clear hl0
  have hm:s.getD x dItem∈s:=by rw [getD_lt hlt];exact List.getElem_mem hlt
  have hk:=sto_key hpre hm
  have hv:=sto_val hpre hm
  have bad:formI p (s.getD x dItem)=false->false=formB p s:=fun h=>by
   simp only [formB];exact (all_hit hlt h).symm
  have go:formI p (s.getD x dItem)=true->∀ j,j<x+1->formI p (s.getD j dItem)=true:=fun h=>below_succ h2 h
  have hw:=IntWalk.i64_in ((x:Int)+1) (by omega)
  simp only [Int.toNat_natCast,Int.toNat_zero]
  obtain ⟨it,hit⟩:∃ it,it=s.getD x dItem:=⟨_,rfl⟩
  simp only [<- hit] at hm hk hv bad go ⊢
  clear hit
  obtain ⟨v1,v2,v3⟩:=hv
  have hform:formI p it=((((p==1&&byteAt it.key 0==115&&it.val.length==1&&decide (it.val.getD 0 0<=9))||(p==3&&byteAt it.key 0==97&&it.val.length==1))||(p==2&&decide (it.val.getD 0 0<=9)&&((byteAt it.key 0==99&&it.val.length==2)||(byteAt it.key 0==102&&it.val.length==3&&inR (it.val.getD 1 0) 1 99&&decide (it.val.getD 2 0<=1)))))&&(byteAt it.key 0==97||it.key.size==2)):=rfl
  obtain ⟨w0,hw0⟩:∃ w,w=it.val.getD 0 0:=⟨_,rfl⟩
  obtain ⟨w1,hw1⟩:∃ w,w=it.val.getD 1 0:=⟨_,rfl⟩
  obtain ⟨w2,hw2⟩:∃ w,w=it.val.getD 2 0:=⟨_,rfl⟩
  obtain ⟨c0,hc0⟩:∃ w,w=byteAt it.key 0:=⟨_,rfl⟩
  simp only [<- hw0,<- hc0,<- hw1,<- hw2,c1,c2,c3,n2] at hform ⊢
  refine ⟨⟨by omega,by omega⟩,⟨by omega,by omega⟩,⟨by omega,by omega⟩,fun z=>z=(x,it.key,it.val,c0,(it.val.length:Int),w0,(p==1&&c0==115&&it.val.length==1&&decide (w0<=9))||(p==3&&c0==97&&it.val.length==1)),?_,fun z hz=>?_⟩
  ·clear bad go hpre h2 hl v3 hw0 hw1 hw2 hc0 hform
   repeat' (first | apply And.intro | intro _)
   all_goals (refine ⟨_,?_,rfl⟩;simp_all)
  ·subst hz
   simp only [Int.toNat_natCast,t1,t2,<- hw0,<- hc0,<- hw1,<- hw2]
   refine ⟨fun z=>z=(x,it.key,it.val,c0,((p==1&&c0==115&&it.val.length==1&&decide (w0<=9))||(p==3&&c0==97&&it.val.length==1))||(p==2&&decide (w0<=9)&&((c0==99&&it.val.length==2)||(c0==102&&it.val.length==3&&inR w1 1 99&&decide (w2<=1))))),?_,fun z hz=>?_⟩
   ·obtain ⟨A,hA⟩:∃ A,A=((p==1&&c0==115&&it.val.length==1&&decide (w0<=9))||(p==3&&c0==97&&it.val.length==1)):=⟨_,rfl⟩
    simp only [<- hA]
    clear bad go hpre h2 hl v3 hw0 hw1 hw2 hc0 hform hA
    repeat' (first | apply And.intro | intro _ | refine ⟨(_,_,_),⟨rfl,rfl,rfl⟩,?_⟩)
    all_goals first | (refine ⟨_,?_,rfl⟩;simp_all;done) | (simp_all;done) | (simp_all;omega)
   ·subst hz
    obtain ⟨A,hA⟩:∃ A,A=(((p==1&&c0==115&&it.val.length==1&&decide (w0<=9))||(p==3&&c0==97&&it.val.length==1))||(p==2&&decide (w0<=9)&&((c0==99&&it.val.length==2)||(c0==102&&it.val.length==3&&inR w1 1 99&&decide (w2<=1))))):=⟨_,rfl⟩
    simp only [<- hA] at hform ⊢
    refine ⟨fun z=>z=(x,!(A&&(c0==97||it.key.size==2))),?_,fun z hz=>?_⟩
    ·clear bad go hpre h2 hl v3 hw0 hw1 hw2 hc0 hform hA
     repeat' (first | apply And.intro | intro _)
     all_goals first | (refine ⟨_,?_,rfl⟩;simp_all;done) | (simp_all;done) | (simp_all;omega)
    ·subst hz
     refine ⟨fun a=>?_,fun a=>⟨x+1,⟨trivial,trivial,wrapN (by omega)⟩,⟨by omega,go ?_⟩,muN hlt⟩⟩
     ·have:=bad (by rw [hform];simp only [Bool.not_eq_true'] at a;exact a)
      simpa using this
     ·rw [hform];simp only [Bool.not_eq_false'] at a;exact a
 ·have:x=s.length:=by have:=nlt hge;omega
  subst this
  simp only [formB];exact (all_miss h2).symm
def spec_l3Form_c:Con Tryz.prog:=conP [.lend,.lend] fun (b:Int×Sto) h=>spec_l3Form_ok (b.1) (b.2) h
theorem spec_PlcOk_ok (p:Int) (s:Sto):FunOK Tryz.prog 233 2 [] [(0,kI p),(1,kSto s)] (·=[(2,kB (plcB p s))]):=by
 refine fun_to (E:=⟨tab,ctOf [spec_l1In_c,spec_StoOk_c,spec_l3Form_c],16,[],[(0,[0,3]),(1,[4])],[],[],[],[]⟩) tab_ok mixed Tryz.func233 rfl Tryz.ntmps233 (rvs:=[.tmp 4]) Tryz.results233 rfl fun hl=>?_
 refine cast (show (∃ (b:Int×Int×Int),(p=b.1/\i_1=b.2.1/\i_3=b.2.2)/\(inR b.1 b.2.1 b.2.2=true->∃ (b:List Item),q_a s b/\(stoB b=true->∃ (b:Int×Sto),(p=b.1/\q_a s b.2)/\stoB b.2=true/\formB b.1 b.2=plcB p s)/\(stoB b=false->false=plcB p s))/\(inR b.1 b.2.1 b.2.2=false->false=plcB p s))=_ by kernel_rfl) ?_
 delta i_1 i_3 t_a q_a
 refine ⟨(p,1,3),⟨rfl,rfl,rfl⟩,fun h=>⟨s,rfl,fun h2=>⟨(p,s),⟨rfl,rfl⟩,h2,?_⟩,fun h2=>?_⟩,fun h=>?_⟩<;>simp_all [plcB]
def spec_PlcOk_c:Con Tryz.prog:=con0 [.lend,.lend] fun b:Int×Sto=>spec_PlcOk_ok (b.1) (b.2)
theorem spec_l3Plan_ok (p:Int) (s:Sto) (tx:Int) (o:Opr) (hpre:plcB p s=true/\opOk o=true/\0<=tx/\tx<=99):FunOK Tryz.prog 234 4 [] [(0,kI p),(1,kSto s),(2,kI tx),(3,kOp o)] (·=[(4,kPlan (planP p s tx o))]):=by
 refine fun_to (E:=⟨tab,ctOf [spec_l3Plain_c,spec_l3In_c,spec_l3May_c,spec_l1Get_c,spec_l3No_c],45,[],[(0,[0,2,5,7,8,17,22,35,36,37,38,40,41,42,43,44]),(1,[2,5,7,8,12,17,22,35,36,37,38,40,41,42,43,44]),(2,[2,5,7,8,12,13,17,22,35,36,37,38,40,41,42,43,44]),(3,[8,17,22,35,36,37,38,40,41,42,43,44]),(4,[2,5,7,8,17,18,22,35,36,37,38,40,41,42,43,44]),(5,[8,17,22,35,36,37,38,40,41,42,43,44]),(6,[5,7,8,9,17,22,35,36,37,38,40,41,42,43,44]),(7,[7,8,9,11,17,22,35,36,37,38,40,41,42,43,44]),(8,[7,8,9,17,22,32,35,36,37,38,40,41,42,43,44]),(9,[8,17,22,35,36,37,38,40,41,42,43,44]),(10,[8,17,22,35,36,37,38,40,41,42,43,44])],[],[],[],[]⟩) tab_ok mixed Tryz.func234 rfl Tryz.ntmps234 (rvs:=[.cell 8 249]) Tryz.results234 rfl fun hl=>?_
 refine cast (show (((p==i_1)=true->∃ (b:Sto×Opr),(q_a s b.1/\o.kind=b.2.kind/\o.who=b.2.who/\o.inn=b.2.inn/\o.code=b.2.code/\o.sec=b.2.sec/\o.fam=b.2.fam/\o.gen=b.2.gen)/\(plcB i_1 b.1=true/\opOk b.2=true)/\(inP b.1 b.2).ok=(planP p s tx o).ok/\q_S (inP b.1 b.2).locks (planP p s tx o).locks/\q_d (inP b.1 b.2).writes (planP p s tx o).writes)/\((p==i_1)=false->((p==i_2)=true->∃ (b:Sto×Opr),(q_a s b.1/\o.kind=b.2.kind/\o.who=b.2.who/\o.inn=b.2.inn/\o.code=b.2.code/\o.sec=b.2.sec/\o.fam=b.2.fam/\o.gen=b.2.gen)/\(plcB i_2 b.1=true/\opOk b.2=true)/\(mayP b.1 b.2).ok=(planP p s tx o).ok/\q_S (mayP b.1 b.2).locks (planP p s tx o).locks/\q_d (mayP b.1 b.2).writes (planP p s tx o).writes)/\((p==i_2)=false->∃ (b:Int),tx=b/\(i_0<=b/\b<=i_1000000)/\(ByteArray.mk #[(97:UInt8)]).size+(natS b.toNat).size<=n_9223372036854775807/\∃ (b_1:Sto×ByteArray),(q_a s b_1.1/\(ByteArray.mk #[(97:UInt8)])++natS b.toNat=b_1.2)/\small b_1.1/\((getS b_1.1 b_1.2).isSome=true->∃ (b_2:List ByteArray),cnRs (frozenRs (typ ByteArray.empty (fun (y:ByteArray)=>[CV.s y]) [(ByteArray.mk #[(97:UInt8)])++natS b.toNat]))=t_S b_2/\b_2.length<=n_10/\((True/\(∀ (k:Nat),True/\True)/\(∀ (k:Nat),True/\True/\(∀ (k:Nat),True/\True)/\True)/\True)/\True)/\(noP b_2).ok=(planP p s tx o).ok/\q_S (noP b_2).locks (planP p s tx o).locks/\q_d (noP b_2).writes (planP p s tx o).writes)/\((getS b_1.1 b_1.2).isSome=false->true=(planP p s tx o).ok/\cnRs (typ ByteArray.empty (fun (y:ByteArray)=>[CV.s y]) [(ByteArray.mk #[(97:UInt8)])++natS b.toNat])=t_S (planP p s tx o).locks/\cnRs (raw [[CV.s ((ByteArray.mk #[(97:UInt8)])++natS b.toNat),CV.b false,CV.ow n_3 (typ i_0 (fun (y:Int)=>[cn_ y]) [o.kind])]])=t_d (planP p s tx o).writes))))=_ by kernel_rfl) ?_
 delta i_0 i_1 i_2 t_a q_a n_3 n_9223372036854775807 cn_ t_S t_d q_S q_d n_10 i_1000000
 have hs:=plc_small hpre.1
 refine ⟨fun h1=>⟨(s,o),⟨rfl,rfl,rfl,rfl,rfl,rfl,rfl,rfl⟩,?_,?_⟩,fun h1=>⟨fun h2=>⟨(s,o),⟨rfl,rfl,rfl,rfl,rfl,rfl,rfl,rfl⟩,?_,?_⟩,fun h2=>⟨tx,rfl,by omega,?_,(s,⟨#[97]⟩++natS tx.toNat),⟨rfl,rfl⟩,hs,?_⟩⟩⟩
 ·simp_all
 ·simp_all [planP]
 ·simp_all
 ·simp_all [planP]
 ·have:=natS_size tx.toNat (by omega)
  show 1+_<=_
  omega
 ·simp only [beq_eq_false_iff_ne,ne_eq] at h1 h2
  simp only [planP,h1,h2,if_false,hasV]
  rcases opt_cases (getS s (⟨#[97]⟩++natS tx.toNat)) with hk | ⟨v,hk⟩<;>simp [noP,hk]
def spec_l3Plan_c:Con Tryz.prog:=conP [.lend,.lend,.lend,.lend] fun (b:Int×Sto×Int×Opr) h=>spec_l3Plan_ok (b.1) (b.2.1) (b.2.2.1) (b.2.2.2) h
end Go.Proofs.AI
namespace Go.Proofs.AI
open Go.RowKit Go.Proofs
set_option linter.unusedVariables false
set_option linter.unusedSimpArgs false
set_option maxRecDepth 100000
theorem cnRs_setF (es:Rows CV) (k o:Nat) (x:CV):cnRs (setF es k o x)=(cnRs es).modify k (·.set o (cn x)):=by
 rw [cnRs_l,setF_l,cnRs_l]
 apply List.ext_getElem?
 intro i
 simp only [setRow,List.getElem?_modify,List.getElem?_map]
 by_cases h:k=i
 ·cases es.l[i]?<;>simp [h,List.map_set]
 ·cases es.l[i]?<;>simp [h]
@[simp] theorem cStoSet (l:List Sto) (k:Nat) (it:Sto):cnRs (setF (typ [] eStoO l) k 0 (.ow tItem (typ dItem eItemO it)))=(l.set k it).map nStoO:=by
 rw [cnRs_setF,cStoO]
 apply List.ext_getElem?
 intro i
 simp only [List.getElem?_modify,List.getElem?_map,List.getElem?_set]
 by_cases h:k=i
 ·subst h
  by_cases hk:k<l.length
  ·simp [hk]
  ·simp [hk]
 ·cases l[i]?<;>simp [h]
end Go.Proofs.AI
namespace Go.Proofs.AI
open Go.RowKit Go.Proofs
set_option linter.unusedVariables false
set_option linter.unusedSimpArgs false
set_option maxRecDepth 100000
def eU (x:Int):List CV:=[.n .u8 x]
abbrev t_U (x:List Int):=cnRs (typ (0:Int) eU x)
abbrev q_U (x y:List Int):Prop:=t_U x=t_U y
abbrev sU (xs:List Int):CV:=.sh 5 (typ 0 eU xs)
abbrev kRd (xs:List Int) (k:Nat):Ky:=⟨.box,[.c (sU xs),.c (.n .i64 (k:Int))],[]⟩
theorem spec_l20Open_ok (l:List Int):FunOK Tryz.prog 56 1 [] [(0,k1 (sU l))] (·=[(1,kRd (l.take 2000) 0)]):=by
 refine fun_to (E:=⟨tab,ctOf [],11,[],[(0,[0,6,7]),(1,[0,5,6,7]),(2,[0,6,7]),(3,[0,2,6,7,8,9,10])],[],[],[],[]⟩) tab_ok mixed Tryz.func56 rfl Tryz.ntmps56 (rvs:=[.tmp 2]) Tryz.results56 rfl fun hl=>?_
 refine cast (show ((decide ((zi l.length)>i_2000)=true->(i_0<=none.getD i_0/\none.getD i_0<=(some i_2000).getD (zi l.length)/\(some i_2000).getD (zi l.length)<=zi l.length)/\cnRs (cutR (typ i_0 eU l) (none.getD i_0).toNat ((some i_2000).getD (zi l.length)).toNat)=t_U (List.take n_2000 l)/\i_0=zi n_0)/\(decide ((zi l.length)>i_2000)=false->q_U l (List.take n_2000 l)/\i_0=zi n_0))=_ by kernel_rfl) ?_
 delta i_0 zi n_0 t_U q_U i_2000 n_2000
 refine ⟨fun h=>⟨⟨by simp,by simp,?_⟩,?_,rfl⟩,fun h=>⟨?_,rfl⟩⟩
 ·have:=ygt (k:=2000) h;simp;omega
 ·have:=ygt (k:=2000) h
  show cnRs (cutR (typ 0 eU l) 0 2000)=_
  rw [cnRs_cut _ (by simp;omega),cnRs_typ,cnRs_typ,List.drop_zero,List.map_take]
 ·have:=ngt (k:=2000) h
  rw [List.take_of_length_le this]
def spec_l20Open_c:Con Tryz.prog:=con0 [.lend] fun b:List Int=>spec_l20Open_ok b
def okU (l:List Int):Prop:=∀ x∈l,0<=x/\x<256
def mixB (l:List Int) (p:Nat):Nat :=
 let x:=(l.getD (p % l.length) 0).toNat*131+(l.getD ((p*7+3) % l.length) 0).toNat*1117+p*29+p / l.length*53
 x ^^^ (x / 64)
def pickB (l:List Int) (p:Nat) (n:Int):Int :=
 if n<1 then 0 else if l.length=0 then 0 else if p<l.length then (l.getD p 0).tmod n else (mixB l p:Int).tmod n
def rdB (l:List Int) (p k:Nat):Prop:=okU l/\p+k<=1000000000
theorem okU_at {l:List Int} (h:okU l) (k:Nat):0<=l.getD k 0/\l.getD k 0<256:=by
 by_cases hk:k<l.length
 ·rw [getD_lt hk];exact h _ (List.getElem_mem hk)
 ·simp [List.getD_eq_getElem?_getD,List.getElem?_eq_none (show l.length<=k by omega)]
theorem pick_lt {l:List Int} {p k:Nat} {n:Int} (h:rdB l p k) (hn:1<=n):0<=pickB l p n/\pickB l p n<n:=by
 unfold pickB
 rw [if_neg (by omega)]
 split
 ·omega
 ·split
  ·exact ⟨Int.tmod_nonneg _ (okU_at h.1 p).1,Int.tmod_lt_of_pos _ (by omega)⟩
  ·exact ⟨Int.tmod_nonneg _ (by omega),Int.tmod_lt_of_pos _ (by omega)⟩
theorem mix_run {x:Nat} (hx:x<4611686018427387904):IntKind.i64.wrap ((BitVec.ofInt IntKind.i64.bits (x:Int) ^^^ BitVec.ofInt IntKind.i64.bits (IntKind.i64.wrap ((x:Int).tdiv 64))).toNat:Int)=((x ^^^ (x / 64):Nat):Int):=by
 show IntKind.i64.wrap (((BitVec.ofInt 64 (x:Int)) ^^^ (BitVec.ofInt 64 (IntKind.i64.wrap ((x:Int).tdiv 64)))).toNat:Int)=_
 have h1:(x:Int).tdiv 64=((x / 64:Nat):Int):=rfl
 have h2:x / 64<4611686018427387904:=by omega
 rw [h1,IntWalk.i64_in ((x / 64:Nat):Int) (by omega)]
 have h3:∀ y:Nat,BitVec.ofInt 64 (y:Int)=BitVec.ofNat 64 y:=fun y=>BitVec.ofInt_natCast 64 y
 have hz:=Nat.xor_lt_two_pow (n:=62) (x:=x) (y:=x / 64) (by simpa using hx) (by simpa using h2)
 have hz':x ^^^ x / 64<4611686018427387904:=by simpa using hz
 rw [h3,h3,BitVec.toNat_xor,BitVec.toNat_ofNat,BitVec.toNat_ofNat,Nat.mod_eq_of_lt (by omega),Nat.mod_eq_of_lt (by omega),IntWalk.i64_in _ (by omega)]
@[simp] theorem cU (xs:List Int):cnRs (typ 0 eU xs)=xs.map eU:=by rw [cnRs_typ];simp [eU]
@[simp] theorem eU_iff {xs ys:List Int}:xs.map eU=ys.map eU↔xs=ys:=map_iff fun x y h=>by simpa [eU] using h
theorem rdB_le {l:List Int} {p k q j:Nat} (h:rdB l p k) (hq:q+j<=p+k):rdB l q j:=⟨h.1,by have:=h.2;omega⟩
theorem spec_rd_pick_ok (l:List Int) (p:Nat) (n:Int) (hpre:rdB l p 1):FunOK Tryz.prog 58 2 [0] [(0,kRd l p),(1,kI n)] (·=[(2,kI (pickB l p n)),(0,kRd l (p+1))]):=by
 refine fun_to (E:=⟨tab,ctOf [],99,[0],[(0,[0,1]),(1,[0,1]),(2,[0,1,24]),(3,[0,4]),(4,[0,1,5]),(5,[0,1,5,36]),(6,[0,4]),(7,[0,1,6]),(8,[0,1,6]),(9,[0,4])],[],[],[],[]⟩) tab_ok mixed Tryz.func58 rfl Tryz.ntmps58 (rvs:=[.tmp 4]) Tryz.results58 rfl fun hl=>?_
 refine cast (show (let k_2:Prop:=q_U l l/\wr_ ((zi p)+i_1)=(zi (p+n_1));let k_1:Prop:=i_0=pickB l p n/\k_2;(decide (n<i_1)=false->((zi l.length==i_0)=true->k_1)/\((zi l.length==i_0)=false->(decide (wr_ (wr_ ((zi p)+i_1)-i_1)<zi l.length)=true->(i_0<=wr_ (wr_ ((zi p)+i_1)-i_1)/\wr_ (wr_ ((zi p)+i_1)-i_1)<zi l.length)/\n≠i_0/\(wr_ (l.getD (wr_ (wr_ ((zi p)+i_1)-i_1)).toNat i_0)).tmod n=pickB l p n/\k_2)/\(decide (wr_ (wr_ ((zi p)+i_1)-i_1)<zi l.length)=false->(zi l.length)≠i_0/\(i_0<=(wr_ (wr_ ((zi p)+i_1)-i_1)).tmod (zi l.length)/\(wr_ (wr_ ((zi p)+i_1)-i_1)).tmod (zi l.length)<zi l.length)/\(zi l.length)≠i_0/\(i_0<=(wr_ (wr_ (wr_ (wr_ ((zi p)+i_1)-i_1)*i_7)+i_3)).tmod (zi l.length)/\(wr_ (wr_ (wr_ (wr_ ((zi p)+i_1)-i_1)*i_7)+i_3)).tmod (zi l.length)<zi l.length)/\(zi l.length)≠i_0/\i_64≠i_0/\n≠i_0/\(wr_ (zi (BitVec.ofInt IntKind.i64.bits (wr_ (wr_ (wr_ (wr_ (wr_ (l.getD ((wr_ (wr_ ((zi p)+i_1)-i_1)).tmod (zi l.length)).toNat i_0)*i_131)+wr_ (wr_ (l.getD ((wr_ (wr_ (wr_ (wr_ ((zi p)+i_1)-i_1)*i_7)+i_3)).tmod (zi l.length)).toNat i_0)*i_1117))+wr_ (wr_ (wr_ ((zi p)+i_1)-i_1)*i_29))+wr_ (wr_ ((wr_ (wr_ ((zi p)+i_1)-i_1)).tdiv (zi l.length))*i_53))) ^^^ BitVec.ofInt IntKind.i64.bits (wr_ ((wr_ (wr_ (wr_ (wr_ (wr_ (l.getD ((wr_ (wr_ ((zi p)+i_1)-i_1)).tmod (zi l.length)).toNat i_0)*i_131)+wr_ (wr_ (l.getD ((wr_ (wr_ (wr_ (wr_ ((zi p)+i_1)-i_1)*i_7)+i_3)).tmod (zi l.length)).toNat i_0)*i_1117))+wr_ (wr_ (wr_ ((zi p)+i_1)-i_1)*i_29))+wr_ (wr_ ((wr_ (wr_ ((zi p)+i_1)-i_1)).tdiv (zi l.length))*i_53))).tdiv i_64))).toNat)).tmod n=pickB l p n/\k_2)))/\(decide (n<i_1)=true->k_1))=_ by kernel_rfl) ?_
 delta i_0 i_1 i_3 wr_ zi n_1 t_U q_U i_7 i_64 i_131 i_1117 i_29 i_53
 have hp:p+1<=1000000000:=hpre.2
 have e1:IntKind.i64.wrap ((p:Int)+1)=((p+1:Nat):Int):=wrapN (by omega)
 have e2:IntKind.i64.wrap (((p+1:Nat):Int)-1)=(p:Int):=by rw [IntWalk.i64_in _ (by omega)];omega
 simp only [e1,e2,true_and,and_true]
 refine ⟨fun hn=>⟨fun hz=>?_,fun hz=>⟨fun hl=>?_,fun hl=>?_⟩⟩,fun hn=>?_⟩
 ·simp at hn hz;simp [pickB,hz]
 ·simp at hn hz hl
  have hb:=okU_at hpre.1 p
  refine ⟨⟨by omega,by omega⟩,by omega,?_⟩
  simp only [Int.toNat_natCast]
  rw [IntWalk.i64_in _ (by omega)]
  simp [pickB,hl,show ¬ n<1 by omega,hz]
 ·simp at hn hz hl
  have hl0:0<l.length:=by cases l<;>simp_all
  have a1:((p:Int)).tmod (l.length:Int)=((p % l.length:Nat):Int):=rfl
  have w7:IntKind.i64.wrap ((p:Int)*7)=((p*7:Nat):Int):=by rw [IntWalk.i64_in _ (by omega)];omega
  have w73:IntKind.i64.wrap (((p*7:Nat):Int)+3)=((p*7+3:Nat):Int):=by rw [IntWalk.i64_in _ (by omega)];omega
  have a2:(((p*7+3:Nat):Int)).tmod (l.length:Int)=(((p*7+3) % l.length:Nat):Int):=rfl
  have a3:((p:Int)).tdiv (l.length:Int)=((p / l.length:Nat):Int):=rfl
  have l1:=Nat.mod_lt p hl0
  have l2:=Nat.mod_lt (p*7+3) hl0
  have l3:p / l.length<=p:=Nat.div_le_self _ _
  simp only [w7,w73,a1,a2,a3,Int.toNat_natCast]
  obtain ⟨b1,b2⟩:=okU_at hpre.1 (p % l.length)
  obtain ⟨b3,b4⟩:=okU_at hpre.1 ((p*7+3) % l.length)
  obtain ⟨u,hu⟩:∃ u:Nat,l.getD (p % l.length) 0=(u:Int):=⟨_,(Int.toNat_of_nonneg b1).symm⟩
  obtain ⟨v,hv⟩:∃ v:Nat,l.getD ((p*7+3) % l.length) 0=(v:Int):=⟨_,(Int.toNat_of_nonneg b3).symm⟩
  have hm:mixB l p=(u*131+v*1117+p*29+p / l.length*53) ^^^ ((u*131+v*1117+p*29+p / l.length*53) / 64):=by
   simp only [mixB,hu,hv,Int.toNat_natCast]
  have hpk:pickB l p n=((mixB l p:Nat):Int).tmod n:=by simp [pickB,show ¬ n<1 by omega,hz,show ¬ p<l.length by omega]
  generalize p / l.length=q at l3 hm hpk ⊢
  simp only [hu,hv]
  rw [hu] at b2;rw [hv] at b4
  refine ⟨by omega,⟨by omega,by omega⟩,by omega,⟨by omega,by omega⟩,by omega,by omega,by omega,?_⟩
  rw [hpk,hm]
  rw [IntWalk.i64_in (u:Int) (by omega),IntWalk.i64_in (v:Int) (by omega),IntWalk.i64_in ((u:Int)*131) (by omega),IntWalk.i64_in ((v:Int)*1117) (by omega),IntWalk.i64_in ((u:Int)*131+(v:Int)*1117) (by omega),IntWalk.i64_in ((p:Int)*29) (by omega),IntWalk.i64_in ((u:Int)*131+(v:Int)*1117+(p:Int)*29) (by omega),IntWalk.i64_in (q:Int) (by omega),IntWalk.i64_in ((q:Int)*53) (by omega)]
  rw [show (u:Int)*131+(v:Int)*1117+(p:Int)*29+(q:Int)*53=((u*131+v*1117+p*29+q*53:Nat):Int) by omega,IntWalk.i64_in ((u*131+v*1117+p*29+q*53:Nat):Int) (by omega)]
  rw [mix_run (by omega)]
 ·simp at hn;simp [pickB,show n<1 by omega]
def spec_rd_pick_c:Con Tryz.prog:=conP [.ptr,.lend] fun (b:List Int×Nat×Int) h=>spec_rd_pick_ok (b.1) (b.2.1) (b.2.2) h
def oddB (l:List Int) (p:Nat) (n:Int):Bool×Nat:=if 0<n then (pickB l p n==n-1,p+1) else (false,p)
theorem odd_le (l:List Int) (p:Nat) (n:Int):(oddB l p n).2<=p+1:=by unfold oddB;split<;>simp
theorem spec_rd_odd_ok (l:List Int) (p:Nat) (n:Int) (hpre:rdB l p 1/\n<1000000):FunOK Tryz.prog 104 2 [0] [(0,kRd l p),(1,kI n)] (·=[(2,kB (oddB l p n).1),(0,kRd l (oddB l p n).2)]):=by
 refine fun_to (E:=⟨tab,ctOf [spec_rd_pick_c],15,[0],[(0,[0,1]),(1,[0,4])],[],[],[],[]⟩) tab_ok mixed Tryz.func104 rfl Tryz.ntmps104 (rvs:=[.tmp 4]) Tryz.results104 rfl fun hl=>?_
 refine cast (show ((decide (n>i_0)=true->∃ (b:y_6),((q_U l b.1/\zi p=zi b.2.1)/\n=b.2.2)/\rdB b.1 b.2.1 n_1/\(pickB b.1 b.2.1 b.2.2==wr_ (n-i_1))=(oddB l p n).1/\q_U b.1 l/\(zi (b.2.1+n_1))=(zi (oddB l p n).2))/\(decide (n>i_0)=false->false=(oddB l p n).1/\q_U l l/\zi p=(zi (oddB l p n).2)))=_ by kernel_rfl) ?_
 delta i_0 i_1 wr_ zi n_1 t_U q_U y_6
 simp only [cU,eU_iff,Prod.exists,Int.natCast_inj,and_assoc,exists_eq_left',true_and]
 refine ⟨fun h=>?_,fun h=>?_⟩
 ·simp at h
  rw [IntWalk.i64_in _ (by have:=hpre.2;omega)]
  simp [oddB,h,hpre.1]
 ·simp at h
  simp [oddB,show ¬ 0<n by omega]
def spec_rd_odd_c:Con Tryz.prog:=conP [.ptr,.lend] fun (b:List Int×Nat×Int) h=>spec_rd_odd_ok (b.1) (b.2.1) (b.2.2) h
theorem mid2 {a b f:Prop} (h:a/\b) (hf:f):a/\b/\f:=⟨h.1,h.2,hf⟩
def op0 (l:List Int) (p:Nat):Opr×Nat :=
 let k:=1+pickB l p 5
 if k=1∨k=5 then (⟨k,pickB l (p+1) 2,pickB l (p+2) 3,0,0,0,0⟩,p+3)
 else if k=2 then (⟨2,pickB l (p+1) 2,pickB l (p+2) 3,pickB l (p+3) 3,pickB l (p+4) 3,0,0⟩,p+5)
 else if k=3 then (⟨3,0,0,pickB l (p+1) 3,pickB l (p+2) 3,pickB l (p+3) 3,0⟩,p+4)
 else (⟨4,0,0,0,0,pickB l (p+1) 3,1+pickB l (p+2) 3⟩,p+3)
def opBent (l:List Int) (p:Nat) (o:Opr):Opr×Nat :=
 let k:=pickB l p 5
 if k=0 then ({ o with kind:=[0,6].getD (pickB l (p+1) 2).toNat 0 },p+2)
 else if k=1 then ({ o with who:=[-1,10,1].getD (pickB l (p+1) 3).toNat 0 },p+2)
 else if k=2 then ({ o with code:=[-1,10,1].getD (pickB l (p+1) 3).toNat 0 },p+2)
 else if k=3 then ({ o with gen:=[-1,100,1].getD (pickB l (p+1) 3).toNat 0 },p+2)
 else ({ o with sec:=[-1,100,99].getD (pickB l (p+1) 3).toNat 0 },p+2)
def opB (l:List Int) (p:Nat) (n:Int):Opr×Nat :=
 let a:=op0 l p
 let q:=oddB l a.2 n
 if q.1=true then opBent l q.2 a.1 else (a.1,q.2)
theorem spec_l20Op_ok (l:List Int) (p:Nat) (n:Int) (hpre:rdB l p 8/\n<1000000):FunOK Tryz.prog 59 2 [0] [(0,kRd l p),(1,kI n)] (·=[(2,⟨.agg,cOp (opB l p n).1,[]⟩),(0,kRd l (opB l p n).2)]):=by
 refine fun_to (E:=⟨tab,ctOf [spec_rd_pick_c,spec_rd_odd_c],92,[0],[(0,[0,1,4]),(1,[0,1,4,5]),(2,[0,1,4,5,11]),(3,[0,1,4,5]),(4,[0,1,4,5,11,18]),(5,[0,1,4,5,11,18]),(6,[0,1,4,5]),(7,[0,1,4,5,11,28]),(8,[0,1,4,5]),(9,[0,1,4,5,39]),(10,[0,1,4,5]),(11,[0,4,5,50]),(12,[0,4,5,52]),(13,[0,4,5]),(14,[0,4,5,52,59]),(15,[0,4,5]),(16,[0,4,5,52,67]),(17,[0,4,5]),(18,[0,4,5,52,75]),(19,[0,4,5]),(20,[0,4,5,83]),(21,[0,4,5]),(22,[0,4])],[],[],[(30002,⟨List Int×Nat×Int×Int×Int×Int×Int×Int×Int,fun x=>[(0,⟨.box,[.c (sU (x.1)),.c (.n .i64 (x.2.1:Int))],[]⟩),(1,(k1 (.n .i64 n))),(4,⟨.box,[.c (.n .i64 ((0:Int))),.c (.n .i64 ((0:Int))),.c (.n .i64 ((0:Int))),.c (.n .i64 ((0:Int))),.c (.n .i64 ((0:Int))),.c (.n .i64 ((0:Int))),.c (.n .i64 ((0:Int)))],[]⟩),(5,⟨.box,[.c (.n .i64 (x.2.2.1)),.c (.n .i64 (x.2.2.2.1)),.c (.n .i64 (x.2.2.2.2.1)),.c (.n .i64 (x.2.2.2.2.2.1)),.c (.n .i64 (x.2.2.2.2.2.2.1)),.c (.n .i64 (x.2.2.2.2.2.2.2.1)),.c (.n .i64 (x.2.2.2.2.2.2.2.2))],[]⟩)]⟩)],[]⟩) tab_ok mixed Tryz.func59 rfl Tryz.ntmps59 (rvs:=[.cell 4 44]) Tryz.results59 rfl fun hl=>?_
 refine cast (show (let k_1:Prop:=i_0=i_0/\i_0=i_0/\i_0=i_0/\i_0=i_0/\i_0=i_0/\i_0=i_0/\i_0=i_0;∃ (b:y_6),((q_U l b.1/\zi p=zi b.2.1)/\i_5=b.2.2)/\rdB b.1 b.2.1 n_1/\(∃ (post:y_7->Prop),let k_2:Prop:=∃ (b_1:y_6),((q_U b.1 b_1.1/\(zi (b.2.1+n_1))=zi b_1.2.1)/\i_2=b_1.2.2)/\rdB b_1.1 b_1.2.1 n_1/\(∃ (b_2:y_6),((q_U b_1.1 b_2.1/\(zi (b_1.2.1+n_1))=zi b_2.2.1)/\i_3=b_2.2.2)/\rdB b_2.1 b_2.2.1 n_1/\(∃ (x:y_7),((q_U b_2.1 x.1/\(zi (b_2.2.1+n_1))=zi x.2.1)/\n=n/\k_1/\wr_ (i_1+pickB b.1 b.2.1 b.2.2)=x.2.2.1/\pickB b_1.1 b_1.2.1 b_1.2.2=x.2.2.2.1/\pickB b_2.1 b_2.2.1 b_2.2.2=x.2.2.2.2.1/\i_0=x.2.2.2.2.2.1/\i_0=x.2.2.2.2.2.2.1/\i_0=x.2.2.2.2.2.2.2.1/\i_0=x.2.2.2.2.2.2.2.2)/\post x));(((wr_ (i_1+pickB b.1 b.2.1 b.2.2)==i_1)=true->k_2)/\((wr_ (i_1+pickB b.1 b.2.1 b.2.2)==i_1)=false->((wr_ (i_1+pickB b.1 b.2.1 b.2.2)==i_5)=true->k_2)/\((wr_ (i_1+pickB b.1 b.2.1 b.2.2)==i_5)=false->((wr_ (i_1+pickB b.1 b.2.1 b.2.2)==i_2)=true->∃ (b_1:y_6),((q_U b.1 b_1.1/\(zi (b.2.1+n_1))=zi b_1.2.1)/\i_2=b_1.2.2)/\rdB b_1.1 b_1.2.1 n_1/\(∃ (b:y_6),((q_U b_1.1 b.1/\(zi (b_1.2.1+n_1))=zi b.2.1)/\i_3=b.2.2)/\rdB b.1 b.2.1 n_1/\(∃ (b_2:y_6),((q_U b.1 b_2.1/\(zi (b.2.1+n_1))=zi b_2.2.1)/\i_3=b_2.2.2)/\rdB b_2.1 b_2.2.1 n_1/\(∃ (b_3:y_6),((q_U b_2.1 b_3.1/\(zi (b_2.2.1+n_1))=zi b_3.2.1)/\i_3=b_3.2.2)/\rdB b_3.1 b_3.2.1 n_1/\(∃ (x:y_7),((q_U b_3.1 x.1/\(zi (b_3.2.1+n_1))=zi x.2.1)/\n=n/\k_1/\i_2=x.2.2.1/\pickB b_1.1 b_1.2.1 b_1.2.2=x.2.2.2.1/\pickB b.1 b.2.1 b.2.2=x.2.2.2.2.1/\pickB b_2.1 b_2.2.1 b_2.2.2=x.2.2.2.2.2.1/\pickB b_3.1 b_3.2.1 b_3.2.2=x.2.2.2.2.2.2.1/\i_0=x.2.2.2.2.2.2.2.1/\i_0=x.2.2.2.2.2.2.2.2)/\post x)))))/\((wr_ (i_1+pickB b.1 b.2.1 b.2.2)==i_2)=false->((wr_ (i_1+pickB b.1 b.2.1 b.2.2)==i_3)=true->∃ (b_1:y_6),((q_U b.1 b_1.1/\(zi (b.2.1+n_1))=zi b_1.2.1)/\i_3=b_1.2.2)/\rdB b_1.1 b_1.2.1 n_1/\(∃ (b:y_6),((q_U b_1.1 b.1/\(zi (b_1.2.1+n_1))=zi b.2.1)/\i_3=b.2.2)/\rdB b.1 b.2.1 n_1/\(∃ (b_2:y_6),((q_U b.1 b_2.1/\(zi (b.2.1+n_1))=zi b_2.2.1)/\i_3=b_2.2.2)/\rdB b_2.1 b_2.2.1 n_1/\(∃ (x:y_7),((q_U b_2.1 x.1/\(zi (b_2.2.1+n_1))=zi x.2.1)/\n=n/\k_1/\i_3=x.2.2.1/\i_0=x.2.2.2.1/\i_0=x.2.2.2.2.1/\pickB b_1.1 b_1.2.1 b_1.2.2=x.2.2.2.2.2.1/\pickB b.1 b.2.1 b.2.2=x.2.2.2.2.2.2.1/\pickB b_2.1 b_2.2.1 b_2.2.2=x.2.2.2.2.2.2.2.1/\i_0=x.2.2.2.2.2.2.2.2)/\post x))))/\((wr_ (i_1+pickB b.1 b.2.1 b.2.2)==i_3)=false->∃ (b_1:y_6),((q_U b.1 b_1.1/\(zi (b.2.1+n_1))=zi b_1.2.1)/\i_3=b_1.2.2)/\rdB b_1.1 b_1.2.1 n_1/\(∃ (b:y_6),((q_U b_1.1 b.1/\(zi (b_1.2.1+n_1))=zi b.2.1)/\i_3=b.2.2)/\rdB b.1 b.2.1 n_1/\(∃ (x:y_7),((q_U b.1 x.1/\(zi (b.2.1+n_1))=zi x.2.1)/\n=n/\k_1/\i_4=x.2.2.1/\i_0=x.2.2.2.1/\i_0=x.2.2.2.2.1/\i_0=x.2.2.2.2.2.1/\i_0=x.2.2.2.2.2.2.1/\pickB b_1.1 b_1.2.1 b_1.2.2=x.2.2.2.2.2.2.2.1/\wr_ (i_1+pickB b.1 b.2.1 b.2.2)=x.2.2.2.2.2.2.2.2)/\post x)))))))/\(∀ (x:y_7),let k_12:Prop:=x.2.2.1=(opB l p n).1.kind;let k_11:Prop:=x.2.2.2.1=(opB l p n).1.who;let k_10:Prop:=x.2.2.2.2.1=(opB l p n).1.inn;let k_9:Prop:=x.2.2.2.2.2.1=(opB l p n).1.code;let k_8:Prop:=x.2.2.2.2.2.2.1=(opB l p n).1.sec;let k_7:Prop:=x.2.2.2.2.2.2.2.1=(opB l p n).1.fam;let k_6:Prop:=k_7/\x.2.2.2.2.2.2.2.2=(opB l p n).1.gen;let k_5:Prop:=k_8/\k_6;let k_4:Prop:=k_10/\k_9/\k_5;let k_3:Prop:=k_11/\k_4;post x->∃ (b:y_6),((q_U x.1 b.1/\zi x.2.1=zi b.2.1)/\n=b.2.2)/\(rdB b.1 b.2.1 n_1/\b.2.2<i_1000000)/\((oddB b.1 b.2.1 b.2.2).1=true->∃ (b_1:y_6),((q_U b.1 b_1.1/\(zi (oddB b.1 b.2.1 b.2.2).2)=zi b_1.2.1)/\i_5=b_1.2.2)/\rdB b_1.1 b_1.2.1 n_1/\((pickB b_1.1 b_1.2.1 b_1.2.2==i_0)=true->∃ (b:y_6),((q_U b_1.1 b.1/\(zi (b_1.2.1+n_1))=zi b.2.1)/\i_2=b.2.2)/\rdB b.1 b.2.1 n_1/\(i_0<=pickB b.1 b.2.1 b.2.2/\pickB b.1 b.2.1 b.2.2<zi n_2)/\(pickB b.1 b.2.1 b.2.2).toNat<n_2/\([i_0,i_6].getD (pickB b.1 b.2.1 b.2.2).toNat i_0=(opB l p n).1.kind/\k_3)/\q_U b.1 l/\(zi (b.2.1+n_1))=(zi (opB l p n).2))/\((pickB b_1.1 b_1.2.1 b_1.2.2==i_0)=false->((pickB b_1.1 b_1.2.1 b_1.2.2==i_1)=true->∃ (b:y_6),((q_U b_1.1 b.1/\(zi (b_1.2.1+n_1))=zi b.2.1)/\i_3=b.2.2)/\rdB b.1 b.2.1 n_1/\(i_0<=pickB b.1 b.2.1 b.2.2/\pickB b.1 b.2.1 b.2.2<zi n_3)/\(pickB b.1 b.2.1 b.2.2).toNat<n_3/\(k_12/\[(-1:Int),i_10,i_1].getD (pickB b.1 b.2.1 b.2.2).toNat i_0=(opB l p n).1.who/\k_4)/\q_U b.1 l/\(zi (b.2.1+n_1))=(zi (opB l p n).2))/\((pickB b_1.1 b_1.2.1 b_1.2.2==i_1)=false->((pickB b_1.1 b_1.2.1 b_1.2.2==i_2)=true->∃ (b:y_6),((q_U b_1.1 b.1/\(zi (b_1.2.1+n_1))=zi b.2.1)/\i_3=b.2.2)/\rdB b.1 b.2.1 n_1/\(i_0<=pickB b.1 b.2.1 b.2.2/\pickB b.1 b.2.1 b.2.2<zi n_3)/\(pickB b.1 b.2.1 b.2.2).toNat<n_3/\(k_12/\k_11/\k_10/\[(-1:Int),i_10,i_1].getD (pickB b.1 b.2.1 b.2.2).toNat i_0=(opB l p n).1.code/\k_5)/\q_U b.1 l/\(zi (b.2.1+n_1))=(zi (opB l p n).2))/\((pickB b_1.1 b_1.2.1 b_1.2.2==i_2)=false->((pickB b_1.1 b_1.2.1 b_1.2.2==i_3)=true->∃ (b:y_6),((q_U b_1.1 b.1/\(zi (b_1.2.1+n_1))=zi b.2.1)/\i_3=b.2.2)/\rdB b.1 b.2.1 n_1/\(i_0<=pickB b.1 b.2.1 b.2.2/\pickB b.1 b.2.1 b.2.2<zi n_3)/\(pickB b.1 b.2.1 b.2.2).toNat<n_3/\(k_12/\k_11/\k_10/\k_9/\k_8/\k_7/\[(-1:Int),i_100,i_1].getD (pickB b.1 b.2.1 b.2.2).toNat i_0=(opB l p n).1.gen)/\q_U b.1 l/\(zi (b.2.1+n_1))=(zi (opB l p n).2))/\((pickB b_1.1 b_1.2.1 b_1.2.2==i_3)=false->∃ (b:y_6),((q_U b_1.1 b.1/\(zi (b_1.2.1+n_1))=zi b.2.1)/\i_3=b.2.2)/\rdB b.1 b.2.1 n_1/\(i_0<=pickB b.1 b.2.1 b.2.2/\pickB b.1 b.2.1 b.2.2<zi n_3)/\(pickB b.1 b.2.1 b.2.2).toNat<n_3/\(k_12/\k_11/\k_10/\k_9/\[(-1:Int),i_100,i_99].getD (pickB b.1 b.2.1 b.2.2).toNat i_0=(opB l p n).1.sec/\k_6)/\q_U b.1 l/\(zi (b.2.1+n_1))=(zi (opB l p n).2))))))/\((oddB b.1 b.2.1 b.2.2).1=false->(k_12/\k_3)/\q_U b.1 l/\(zi (oddB b.1 b.2.1 b.2.2).2)=(zi (opB l p n).2)))))=_ by kernel_rfl) ?_
 delta i_0 i_99 i_1 i_5 i_2 i_3 i_4 wr_ zi n_1 n_3 i_10 n_2 i_1000000 t_U q_U y_6 i_6 i_100 y_7
 have hp:=hpre.1
 have b1:=pick_lt hp (n:=5) (by omega)
 have e1:IntKind.i64.wrap (1+pickB l p 5)=1+pickB l p 5:=IntWalk.i64_in _ (by omega)
 simp only [cU,eU_iff,Prod.exists,Int.natCast_inj,and_assoc,exists_eq_left',exists_and_left,true_and,and_self]
 simp only [e1]
 refine ⟨rdB_le hp (by omega),fun z=>z=(l,(op0 l p).2,(op0 l p).1.kind,(op0 l p).1.who,(op0 l p).1.inn,(op0 l p).1.code,(op0 l p).1.sec,(op0 l p).1.fam,(op0 l p).1.gen),?_⟩
 have hq:(op0 l p).2<=p+5:=by simp only [op0];split<;>(try split)<;>(try split)<;>simp<;>omega
 have b2:=pick_lt (p:=p+1+1) (n:=3) (rdB_le hp (by omega):rdB l (p+1+1) 1) (by omega)
 have e2:IntKind.i64.wrap (1+pickB l (p+1+1) 3)=1+pickB l (p+1+1) 3:=IntWalk.i64_in _ (by omega)
 have ho:opB l p n=if (oddB l (op0 l p).2 n).1=true then opBent l (oddB l (op0 l p).2 n).2 (op0 l p).1 else ((op0 l p).1,(oddB l (op0 l p).2 n).2):=rfl
 have hod:=odd_le l (op0 l p).2 n
 simp only [forall_eq,e2,ho]
 have hqp:rdB l (op0 l p).2 3:=rdB_le hp (by omega)
 refine mid2 ?_ ?_
 ·clear ho hod
  rcases (by omega:pickB l p 5=0∨pickB l p 5=1∨pickB l p 5=2∨pickB l p 5=3∨pickB l p 5=4) with h | h | h | h | h
  all_goals
   simp [h,op0,Nat.add_assoc]
   try exact ⟨rdB_le hp (by omega),rdB_le hp (by omega)⟩
   try exact ⟨rdB_le hp (by omega),rdB_le hp (by omega),rdB_le hp (by omega)⟩
   try exact ⟨rdB_le hp (by omega),rdB_le hp (by omega),rdB_le hp (by omega),rdB_le hp (by omega)⟩
 ·have k1:=pick_lt (p:=(oddB l (op0 l p).2 n).2+1) (n:=2) (rdB_le hp (by omega):rdB l ((oddB l (op0 l p).2 n).2+1) 1) (by omega)
  have k2:=pick_lt (p:=(oddB l (op0 l p).2 n).2+1) (n:=3) (rdB_le hp (by omega):rdB l ((oddB l (op0 l p).2 n).2+1) 1) (by omega)
  have r1:rdB l ((oddB l (op0 l p).2 n).2) 1:=rdB_le hp (by omega)
  have r2:rdB l ((oddB l (op0 l p).2 n).2+1) 1:=rdB_le hp (by omega)
  refine ⟨rdB_le hp (by omega),hpre.2,?_⟩
  clear ho hq hod e1 e2 b1 b2 hpre hl hqp hp
  generalize oddB l (op0 l p).2 n=q at *
  generalize (op0 l p).1=o at *
  have t2:(pickB l (q.2+1) 2).toNat<2:=by omega
  have t3:(pickB l (q.2+1) 3).toNat<3:=by omega
  simp only [beq_iff_eq,beq_eq_false_iff_ne,ne_eq]
  repeat' (first | assumption | with_reducible apply And.intro | with_reducible intro _)
  all_goals first | assumption | (simp [opBent,Nat.add_assoc, *];done) | (simp;omega)
def spec_l20Op_c:Con Tryz.prog:=conP [.ptr,.lend] fun (b:List Int×Nat×Int) h=>spec_l20Op_ok (b.1) (b.2.1) (b.2.2) h
set_option linter.defProp false in
def zza:=And.intro @cU (And.intro @eU_iff (And.intro @Prod.exists.{0,0} (And.intro @Int.natCast_inj (And.intro @and_assoc (And.intro @exists_eq_left'.{1} (And.intro @exists_and_left.{1} (And.intro @exists_and_left.{0} (And.intro @implies_true.{1} (And.intro @implies_true.{0} (And.intro @bne_iff_ne.{0} (And.intro @beq_iff_eq.{0} (And.intro @beq_eq_false_iff_ne.{0} (And.intro @forall_eq.{1} (And.intro @Prod.forall.{0,0} (And.intro @fi_eI (And.intro @fi_eS (And.intro @cI (And.intro @nI_iff (And.intro @cItemO (And.intro @cItemS (And.intro @nItemO_iff (And.intro @nItemS_iff (And.intro @cWrtO (And.intro @cWrtS (And.intro @nWrtO_iff (And.intro @nWrtS_iff (And.intro @cStoO (And.intro @cStoS (And.intro @nStoO_iff (And.intro @nStoS_iff (And.intro @fItemO (And.intro @fItemS (And.intro @fWrtO (And.intro @fWrtS (And.intro @fStoO (And.intro @fStoS (And.intro @fI (And.intro @frz_app (And.intro @cnRs_raw (And.intro @cnRs_nil (And.intro @List.map_nil.{0,0} (And.intro @Int.toNat_natCast (And.intro @Bool.not_eq_true (And.intro @Bool.not_eq_false (And.intro @decide_eq_true_eq (And.intro @decide_eq_false_iff_not (@gt_iff_lt.{0})))))))))))))))))))))))))))))))))))))))))))))))
end Go.Proofs.AI
