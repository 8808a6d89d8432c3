/- Data, how they lie in memory, and contracts of functions. Conditions: none. -/
import Derived.KernelRfl
import Derived.RangeFuncNested
import Derived.RangeFuncBound
import Derived.RangeFuncCalls
import Derived.RangeFuncLeaves
import Derived.RangeFuncBox
import Derived.Shelf.Abstract
import Derived.Shelf.RegionOpen
import Derived.WalkKit
import Derived.OwnWalkIn
import Derived.TacticsInMore
import Derived.LoopNIn
import Derived.LoopIn
import Derived.Test.YthahcnabgjgpfabGreatDoorK03
namespace Go.Proofs.AI
open Go.RowKit Go.Proofs
set_option linter.unusedVariables false
set_option linter.unusedSimpArgs false
set_option maxRecDepth 100000
def wayP (f:Front) (k:Nat):Bool:=inR (f.way.getD k dFTx).tx 0 29&&(k==0||decide ((f.way.getD (k-1) dFTx).tx<(f.way.getD k dFTx).tx))&&risB (f.way.getD k dFTx).can&&risB (f.way.getD k dFTx).know&&((f.way.getD k dFTx).yes==(ofN f.disk.notes (f.way.getD k dFTx).tx==2))&&((f.way.getD k dFTx).yes||(opOk (f.way.getD k dFTx).op&&(f.way.getD k dFTx).know.length==0))
def froB (f:Front):Bool:=diskB f.disk&&decide (f.way.length<=30)&&f.disk.notes.all (fun n=>n.kind==2||n.kind==4)&&(List.range f.way.length).all (wayP f)
def tickT (t:FTx):List Msg:=if t.yes=true then sendF 2 t.tx dOpr (lessP [1,2,3] t.know) else sendF 1 t.tx t.op (lessP (placesL t.op) t.can)
def tickF (f:Front):List Msg:=if froB f=true then f.way.flatMap tickT else []
def goneF (f:Front) (at_:Nat):Front:=⟨f.disk,f.way.eraseIdx at_⟩
def noF (f:Front) (at_:Nat):Front×List Msg×List FOut:=(goneF f at_,sendF 3 (f.way.getD at_ dFTx).tx dOpr (placesL (f.way.getD at_ dFTx).op),[⟨(f.way.getD at_ dFTx).tx,false⟩])
def noBegin (f:Front) (tx:Int):Prop:=0<=atF f.way tx∨ofN f.disk.notes tx≠0∨(0<f.way.length/\tx<(f.way.getD (f.way.length-1) dFTx).tx)∨120<f.disk.notes.length+2*f.way.length+2
instance (f:Front) (tx:Int):Decidable (noBegin f tx):=by unfold noBegin;infer_instance
def beginF (f:Front) (tx:Int) (o:Opr):Front×List Msg×Bool :=
 if noBegin f tx then (f,[],false) else (⟨f.disk,f.way++[⟨tx,o,false,[],[]⟩]⟩,sendF 1 tx o (placesL o),true)
theorem sendF_len (k tx:Int) (o:Opr) (ps:List Int):(sendF k tx o ps).length=ps.length:=by simp [sendF]
theorem lessP_len (l s:List Int):(lessP l s).length<=l.length:=List.length_filter_le _ _
theorem places_len3 (o:Opr):(placesL o).length<=3:=by
 simp only [placesL]
 repeat' split
 all_goals simp
theorem tickT_len (t:FTx):(tickT t).length<=3:=by
 simp only [tickT]
 have h1:=lessP_len [1,2,3] t.know
 have h2:=lessP_len (placesL t.op) t.can
 have h3:=places_len3 t.op
 split
 ·rw [sendF_len];exact h1
 ·rw [sendF_len];omega
theorem tick_len (l:List FTx):(l.flatMap tickT).length<=3*l.length:=by
 induction l with
 | nil=>simp
 | cons t l ih =>
  have:=tickT_len t
  rw [List.flatMap_cons,List.length_append,List.length_cons];omega
theorem froB_parts {f:Front} (h:froB f=true):diskB f.disk=true/\f.way.length<=30/\(∀ n∈f.disk.notes,n.kind=2∨n.kind=4)/\∀ k,k<f.way.length->wayP f k=true:=by
 simp only [froB,Bool.and_eq_true,decide_eq_true_eq,List.all_eq_true,Bool.or_eq_true,beq_iff_eq,List.mem_range] at h
 exact ⟨h.1.1.1,h.1.1.2,h.1.2,h.2⟩
theorem spec_FroOk_ok (f:Front):FunOK Tryz.prog 32 1 [] [(0,kFrontS f)] (·=[(1,kB (froB f))]):=by
 refine fun_to (E:=⟨tab,ctOf [spec_l1In_c,spec_OpOk_c,spec_DiskOk_c,spec_l6Places_c,spec_l2Of_c],113,[],[(0,[1]),(1,[1,15]),(2,[2]),(3,[1,3]),(4,[1,3,21]),(5,[1,3]),(6,[1,3,41]),(7,[2]),(8,[1,4]),(9,[1,4,46]),(10,[1,4]),(11,[1,4,5]),(12,[1,4,5,97]),(13,[2]),(14,[1,4,112]),(15,[2]),(16,[2])],[(0,⟨Nat,fun x=>[(1,⟨.box,[.c (.sh 107 (typ dNote eNoteS f.disk.notes)),.c (.n .i64 f.disk.safe),.c (.sh 69 (typ dFTx eFTxS f.way))],[]⟩),(3,(k1 (.n .i64 (x:Int))))]⟩),(2,⟨Nat,fun x=>[(1,⟨.box,[.c (.sh 107 (typ dNote eNoteS f.disk.notes)),.c (.n .i64 f.disk.safe),.c (.sh 69 (typ dFTx eFTxS f.way))],[]⟩),(4,(k1 (.n .i64 (x:Int))))]⟩)],[],[(1,⟨Bool,fun x=>[(1,⟨.box,[.c (.sh 107 (typ dNote eNoteS f.disk.notes)),.c (.n .i64 f.disk.safe),.c (.sh 69 (typ dFTx eFTxS f.way))],[]⟩),(15,(k1 (.b (x))))]⟩),(12,⟨Nat×Int×Int×Int×Int×Int×Int×Int×Int×Bool×List Int×List Int×Bool,fun x=>[(1,⟨.box,[.c (.sh 107 (typ dNote eNoteS f.disk.notes)),.c (.n .i64 f.disk.safe),.c (.sh 69 (typ dFTx eFTxS f.way))],[]⟩),(4,(k1 (.n .i64 (x.1:Int)))),(5,⟨.box,[.c (.n .i64 (x.2.1)),.c (.n .i64 (x.2.2.1)),.c (.n .i64 (x.2.2.2.1)),.c (.n .i64 (x.2.2.2.2.1)),.c (.n .i64 (x.2.2.2.2.2.1)),.c (.n .i64 (x.2.2.2.2.2.2.1)),.c (.n .i64 (x.2.2.2.2.2.2.2.1)),.c (.n .i64 (x.2.2.2.2.2.2.2.2.1)),.c (.b (x.2.2.2.2.2.2.2.2.2.1)),.c (sI (x.2.2.2.2.2.2.2.2.2.2.1)),.c (sI (x.2.2.2.2.2.2.2.2.2.2.2.1))],[]⟩),(97,(k1 (.b (x.2.2.2.2.2.2.2.2.2.2.2.2))))]⟩),(14,⟨Nat×Bool,fun x=>[(1,⟨.box,[.c (.sh 107 (typ dNote eNoteS f.disk.notes)),.c (.n .i64 f.disk.safe),.c (.sh 69 (typ dFTx eFTxS f.way))],[]⟩),(4,(k1 (.n .i64 (x.1:Int)))),(112,(k1 (.b (x.2))))]⟩)],[]⟩) tab_ok mixed Tryz.func32 rfl Tryz.ntmps32 (rvs:=[.tmp 2]) Tryz.results32 rfl fun hl=>?_
 refine cast (show (let k_1:Prop:=q_e f.disk.notes f.disk.notes/\f.disk.safe=f.disk.safe/\q_h f.way f.way;∃ (post:Bool->Prop),(∃ (b:Disk),(q_e f.disk.notes b.notes/\f.disk.safe=b.safe)/\((!diskB b)=false->∃ (x:Bool),(k_1/\decide ((zi f.way.length)>i_30)=x)/\post x)/\((!diskB b)=true->∃ (x:Bool),(k_1/\true=x)/\post x))/\(∀ (x:Bool),post x->(x=true->false=froB f)/\(x=false->∃ (pre:Nat->Prop),∃ (μ:Nat->Nat),∃ (x0:Nat),(k_1/\i_0=zi x0)/\pre x0/\(∀ (x:Nat),let k_3:Prop:=i_0<=zi x/\zi x<zi f.disk.notes.length;let k_2:Prop:=∃ (y:Nat),(k_1/\wr_ ((zi x)+i_1)=zi y)/\pre y/\μ y<μ x;pre x->(decide (zi x<zi f.disk.notes.length)=true->k_3/\(((g_Note f.disk.notes x).kind != i_2)=true->k_3/\(((g_Note f.disk.notes x).kind != i_4)=true->false=froB f)/\(((g_Note f.disk.notes x).kind != i_4)=false->k_2))/\(((g_Note f.disk.notes x).kind != i_2)=false->k_2))/\(decide (zi x<zi f.disk.notes.length)=false->∃ (pre:Nat->Prop),∃ (μ:Nat->Nat),∃ (x0:Nat),(k_1/\i_0=zi x0)/\pre x0/\(∀ (x:Nat),pre x->(decide (zi x<zi f.way.length)=true->(i_0<=zi x/\zi x<zi f.way.length)/\(∃ (post:y_21->Prop),let k_5:Prop:=∃ (x_1:y_21),(k_1/\zi x=zi x_1.1/\((g_FTx f.way x).tx=x_1.2.1/\(g_FTx f.way x).op.kind=x_1.2.2.1/\(g_FTx f.way x).op.who=x_1.2.2.2.1/\(g_FTx f.way x).op.inn=x_1.2.2.2.2.1/\(g_FTx f.way x).op.code=x_1.2.2.2.2.2.1/\(g_FTx f.way x).op.sec=x_1.2.2.2.2.2.2.1/\(g_FTx f.way x).op.fam=x_1.2.2.2.2.2.2.2.1/\(g_FTx f.way x).op.gen=x_1.2.2.2.2.2.2.2.2.1/\(g_FTx f.way x).yes=x_1.2.2.2.2.2.2.2.2.2.1/\q_I (g_FTx f.way x).can x_1.2.2.2.2.2.2.2.2.2.2.1/\q_I (g_FTx f.way x).know x_1.2.2.2.2.2.2.2.2.2.2.2.1)/\true=x_1.2.2.2.2.2.2.2.2.2.2.2.2)/\post x_1;let k_4:Prop:=∃ (b:List Int),q_I (g_FTx f.way x).can b/\((!risB b)=false->∃ (b:List Int),q_I (g_FTx f.way x).know b/\((!risB b)=false->∃ (b:List Note×Int),(q_e f.disk.notes b.1/\(g_FTx f.way x).tx=b.2)/\(∃ (x_1:y_21),(k_1/\zi x=zi x_1.1/\((g_FTx f.way x).tx=x_1.2.1/\(g_FTx f.way x).op.kind=x_1.2.2.1/\(g_FTx f.way x).op.who=x_1.2.2.2.1/\(g_FTx f.way x).op.inn=x_1.2.2.2.2.1/\(g_FTx f.way x).op.code=x_1.2.2.2.2.2.1/\(g_FTx f.way x).op.sec=x_1.2.2.2.2.2.2.1/\(g_FTx f.way x).op.fam=x_1.2.2.2.2.2.2.2.1/\(g_FTx f.way x).op.gen=x_1.2.2.2.2.2.2.2.2.1/\(g_FTx f.way x).yes=x_1.2.2.2.2.2.2.2.2.2.1/\q_I (g_FTx f.way x).can x_1.2.2.2.2.2.2.2.2.2.2.1/\q_I (g_FTx f.way x).know x_1.2.2.2.2.2.2.2.2.2.2.2.1)/\(if true=true then !(g_FTx f.way x).yes==(ofN b.1 b.2==i_2) else (g_FTx f.way x).yes==(ofN b.1 b.2==i_2))=x_1.2.2.2.2.2.2.2.2.2.2.2.2)/\post x_1))/\((!risB b)=true->k_5))/\((!risB b)=true->k_5);(∃ (b:Int×Int×Int),((g_FTx f.way x).tx=b.1/\i_0=b.2.1/\i_29=b.2.2)/\((!inR b.1 b.2.1 b.2.2)=false->(decide ((zi x)>i_0)=true->(i_0<=wr_ ((zi x)-i_1)/\wr_ ((zi x)-i_1)<zi f.way.length)/\(decide ((f.way.getD (wr_ ((zi x)-i_1)).toNat dFTx).tx≥(g_FTx f.way x).tx)=false->k_4)/\(decide ((f.way.getD (wr_ ((zi x)-i_1)).toNat dFTx).tx≥(g_FTx f.way x).tx)=true->k_5))/\(decide ((zi x)>i_0)=false->k_4))/\((!inR b.1 b.2.1 b.2.2)=true->k_5))/\(∀ (x_1:y_21),post x_1->(x_1.2.2.2.2.2.2.2.2.2.2.2.2=true->false=froB f)/\(x_1.2.2.2.2.2.2.2.2.2.2.2.2=false->∃ (post:Nat×Bool->Prop),(((!x_1.2.2.2.2.2.2.2.2.2.1)=true->∃ (b:Opr),(x_1.2.2.1=b.kind/\x_1.2.2.2.1=b.who/\x_1.2.2.2.2.1=b.inn/\x_1.2.2.2.2.2.1=b.code/\x_1.2.2.2.2.2.2.1=b.sec/\x_1.2.2.2.2.2.2.2.1=b.fam/\x_1.2.2.2.2.2.2.2.2.1=b.gen)/\((!opOk b)=false->∃ (x:Nat×Bool),(k_1/\zi x_1.1=zi x.1/\decide ((zi x_1.2.2.2.2.2.2.2.2.2.2.2.1.length)>i_0)=x.2)/\post x)/\((!opOk b)=true->∃ (x:Nat×Bool),(k_1/\zi x_1.1=zi x.1/\true=x.2)/\post x))/\((!x_1.2.2.2.2.2.2.2.2.2.1)=false->∃ (x:Nat×Bool),(k_1/\zi x_1.1=zi x.1/\false=x.2)/\post x))/\(∀ (x_2:Nat×Bool),post x_2->(x_2.2=true->false=froB f)/\(x_2.2=false->∃ (y:Nat),(k_1/\wr_ ((zi x_2.1)+i_1)=zi y)/\pre y/\μ y<μ x))))))/\(decide (zi x<zi f.way.length)=false->true=froB f)))))))=_ by kernel_rfl) ?_
 delta i_0 i_1 i_2 i_4 wr_ zi t_I q_I i_29 i_30 g_Note t_e q_e g_FTx t_h q_h y_21
 have hx:f.disk.notes.length<=9223372036854775807:=hl.1 (.c (sNotes f.disk.notes)) (by simp)
 have hy:f.way.length<=9223372036854775807:=hl.1 (.c (sFTxs f.way)) (by simp)
 simp only [zza,zzb,true_and,and_true,and_self,ne_eq,cI_app,cWrtO_app,cWrtS_app,cWrtO_1,cItemO_1,opr_ex,zcast,frz_nil,nil_map,Option.getD_none,Option.getD_some]
 refine ⟨fun z=>z=!(diskB f.disk&&decide (f.way.length<=30)),fun h=>?_,fun h=>?_,fun z hz=>?_⟩
 ·simp at h;rw [Bool.eq_iff_iff];simp [h];omega
 ·simp at h;simp [h]
 subst hz
 refine ⟨fun h=>?_,fun h=>?_⟩
 ·have h:(diskB f.disk&&decide (f.way.length<=30))=false:=by simpa only [Bool.not_eq_true'] using h
  simp only [froB,h,Bool.false_and]
 have h:(diskB f.disk&&decide (f.way.length<=30))=true:=by simpa only [Bool.not_eq_false'] using h
 have hn:froB f=(f.disk.notes.all (fun n=>n.kind==2||n.kind==4)&&(List.range f.way.length).all (wayP f)):=by simp only [froB,h,Bool.true_and]
 rw [hn]
 refine ⟨fun i=>i<=f.disk.notes.length/\∀ j,j<i->((f.disk.notes.getD j dNote).kind==2||(f.disk.notes.getD j dNote).kind==4)=true,⟨by omega,fun j hj=>absurd hj (Nat.not_lt_zero _)⟩,fun i=>f.disk.notes.length-i,fun i hp=>?_⟩
 obtain ⟨h1,h2⟩:=hp
 refine ⟨fun hlt=>⟨by omega,hlt,fun e1=>⟨by omega,hlt,fun e2=>?_,fun e2=>⟨i+1,wrapN (by omega),⟨by omega,below_succ h2 ?_⟩,by simp only;omega⟩⟩,fun e1=>⟨i+1,wrapN (by omega),⟨by omega,below_succ h2 ?_⟩,by simp only;omega⟩⟩,fun hge=>?_⟩
 ·rw [all_hit (p:=fun n:Note=>n.kind==2||n.kind==4) (i:=i) (d:=dNote) (by omega) (by simp at e1 e2;simp [e1,e2])];rfl
 ·simp at e2;simp [e2]
 ·simp at e1;simp [e1]
 have ha:f.disk.notes.all (fun n=>n.kind==2||n.kind==4)=true:=all_miss (d:=dNote) fun j hj=>h2 j (by omega)
 rw [ha,Bool.true_and]
 refine ⟨fun i=>i<=f.way.length/\∀ j,j<i->wayP f j=true,⟨by omega,fun j hj=>absurd hj (Nat.not_lt_zero _)⟩,fun i=>f.way.length-i,fun i hp=>?_⟩
 obtain ⟨g1,g2⟩:=hp
 refine ⟨fun hlt=>?_,fun hge=>(range_miss (fun j hj=>g2 j (by omega))).symm⟩
 have hlt:i<f.way.length:=by omega
 have bad:wayP f i=false->false=(List.range f.way.length).all (wayP f):=fun h=>(range_hit hlt h).symm
 have hw:0<i->IntKind.i64.wrap ((i:Int)-1)=((i-1:Nat):Int):=fun h0=>by rw [IntWalk.i64_in _ (by omega)];omega
 have hP:wayP f i=(inR (f.way.getD i dFTx).tx 0 29&&(i==0||decide ((f.way.getD (i-1) dFTx).tx<(f.way.getD i dFTx).tx))&&risB (f.way.getD i dFTx).can&&risB (f.way.getD i dFTx).know&&((f.way.getD i dFTx).yes==(ofN f.disk.notes (f.way.getD i dFTx).tx==2))&&((f.way.getD i dFTx).yes||(opOk (f.way.getD i dFTx).op&&(f.way.getD i dFTx).know.length==0))):=rfl
 generalize f.way.getD i dFTx=T at hP ⊢
 refine ⟨by omega,by omega,fun z=>z.1=i/\z.2.1=T.tx/\z.2.2.1=T.op.kind/\z.2.2.2.1=T.op.who/\z.2.2.2.2.1=T.op.inn/\z.2.2.2.2.2.1=T.op.code/\z.2.2.2.2.2.2.1=T.op.sec/\z.2.2.2.2.2.2.2.1=T.op.fam/\z.2.2.2.2.2.2.2.2.1=T.op.gen/\z.2.2.2.2.2.2.2.2.2.1=T.yes/\z.2.2.2.2.2.2.2.2.2.2.1=T.can/\z.2.2.2.2.2.2.2.2.2.2.2.1=T.know/\z.2.2.2.2.2.2.2.2.2.2.2.2=!(inR T.tx 0 29&&(i==0||decide ((f.way.getD (i-1) dFTx).tx<T.tx))&&risB T.can&&risB T.know&&(T.yes==(ofN f.disk.notes T.tx==2))),fun e1=>⟨fun e2=>?_,fun e2=>⟨fun e3=>⟨fun e4=>?_,fun e4=>?_⟩,fun e3=>?_⟩⟩,fun e1=>?_,fun b0 b1 b2 b3 b4 b5 b6 b7 b8 b9 b10 b11 b12 hb=>?_⟩
 ·rw [hw (by omega),Int.toNat_natCast]
  refine ⟨by omega,by omega,fun e3=>⟨fun e4=>⟨fun e5=>?_,fun e5=>?_⟩,fun e4=>?_⟩,fun e3=>?_⟩
  ·simp only [Bool.not_eq_false'] at e1 e4 e5
   have h0:(i==0)=false:=by simp;omega
   have h3:(f.way.getD (i-1) dFTx).tx<T.tx:=by omega
   refine ⟨rfl,rfl,rfl,rfl,rfl,rfl,rfl,rfl,rfl,rfl,rfl,rfl,?_⟩
   simp only [e1,e4,e5,h0,decide_eq_true h3,Bool.true_and,Bool.or_true,Bool.and_true]
   cases T.yes<;>cases (ofN f.disk.notes T.tx==2)<;>rfl
  ·simp only [Bool.not_eq_true'] at e5
   refine ⟨rfl,rfl,rfl,rfl,rfl,rfl,rfl,rfl,rfl,rfl,rfl,rfl,?_⟩
   simp only [e5,Bool.and_false,Bool.false_and,Bool.not_false]
  ·simp only [Bool.not_eq_true'] at e4
   refine ⟨rfl,rfl,rfl,rfl,rfl,rfl,rfl,rfl,rfl,rfl,rfl,rfl,?_⟩
   simp only [e4,Bool.and_false,Bool.false_and,Bool.not_false]
  ·have h0:(i==0)=false:=by simp;omega
   have h3:¬ (f.way.getD (i-1) dFTx).tx<T.tx:=by omega
   refine ⟨rfl,rfl,rfl,rfl,rfl,rfl,rfl,rfl,rfl,rfl,rfl,rfl,?_⟩
   simp only [h0,decide_eq_false h3,Bool.or_self,Bool.and_false,Bool.false_and,Bool.not_false]
 ·simp only [Bool.not_eq_false'] at e1 e3 e4
  have h0:(i==0)=true:=by simp;omega
  refine ⟨rfl,rfl,rfl,rfl,rfl,rfl,rfl,rfl,rfl,rfl,rfl,rfl,?_⟩
  simp only [e1,e3,e4,h0,Bool.true_and,Bool.true_or,Bool.and_true]
  cases T.yes<;>cases (ofN f.disk.notes T.tx==2)<;>rfl
 ·simp only [Bool.not_eq_true'] at e4
  refine ⟨rfl,rfl,rfl,rfl,rfl,rfl,rfl,rfl,rfl,rfl,rfl,rfl,?_⟩
  simp only [e4,Bool.and_false,Bool.false_and,Bool.not_false]
 ·simp only [Bool.not_eq_true'] at e3
  refine ⟨rfl,rfl,rfl,rfl,rfl,rfl,rfl,rfl,rfl,rfl,rfl,rfl,?_⟩
  simp only [e3,Bool.and_false,Bool.false_and,Bool.not_false]
 ·simp only [Bool.not_eq_true'] at e1
  refine ⟨rfl,rfl,rfl,rfl,rfl,rfl,rfl,rfl,rfl,rfl,rfl,rfl,?_⟩
  simp only [e1,Bool.false_and,Bool.not_false]
 simp only at hb
 obtain ⟨rfl,rfl,rfl,rfl,rfl,rfl,rfl,rfl,rfl,rfl,rfl,rfl,hb⟩:=hb
 refine ⟨fun e=>bad ?_,fun e=>?_⟩
 ·rw [hb,Bool.not_eq_true'] at e;rw [hP,e,Bool.false_and]
 rw [hb,Bool.not_eq_false'] at e
 rw [e,Bool.true_and] at hP
 refine ⟨fun z=>z.1=b0/\z.2=!(T.yes||(opOk T.op&&T.know.length==0)),fun e1=>⟨fun e2=>⟨rfl,?_⟩,fun e2=>⟨rfl,?_⟩⟩,fun e1=>⟨rfl,?_⟩,fun c0 c1 hc=>?_⟩
 ·simp at e1 e2
  rw [e1,e2,Bool.eq_iff_iff];simp
  constructor
  ·intro h h2;rw [h2] at h;simp at h
  ·intro h;cases hk:T.know with
   | nil=>exact absurd hk h
   | cons=>simp
 ·simp at e1 e2;simp [e1,e2]
 ·simp at e1;simp [e1]
 simp only at hc
 obtain ⟨rfl,rfl⟩:=hc
 refine ⟨fun e=>bad ?_,fun e=>⟨c0+1,wrapN (by omega),⟨by omega,below_succ g2 ?_⟩,by simp only;omega⟩⟩
 ·rw [Bool.not_eq_true'] at e;rw [hP,e]
 ·rw [Bool.not_eq_false'] at e;rw [hP,e]
def spec_FroOk_c:Con Tryz.prog:=con0 [.lend] fun b:Front=>spec_FroOk_ok b
theorem spec_FroTick_ok (f:Front):FunOK Tryz.prog 205 1 [] [(0,kFrontS f)] (·=[(1,k1 (oMsgs (tickF f)))]):=by
 refine fun_to (E:=⟨tab,ctOf [spec_FroOk_c,spec_l6Send_c,spec_OpPlaces_c,spec_l6Less_c,spec_l6All_c],49,[],[(0,[1,3,6,10,25,33,34,35,46,47,48]),(1,[1,3,6,10,25,33,34,35,46,47,48]),(2,[1,3,6,9,10,25,33,34,35,46,47,48]),(3,[2,3,6,10,25,33,34,35,46,47,48]),(4,[1,3,4,6,10,25,33,34,35,46,47]),(5,[1,3,4,6,10,15,25,33,34,35,46,47]),(6,[1,3,4,6,10,25,33,34,35,46,47]),(7,[1,3,4,5,6,10,25,33,34,35,46,47]),(8,[1,3,4,5,6,10,24,25,33,34,35,46,47]),(9,[1,3,4,6,10,25,33,34,35,46,47]),(10,[1,3,4,6,10,25,33,34,35,46,47]),(11,[2,3,6,10,25,33,34,35,46,47,48])],[(0,⟨List Msg×Nat,fun x=>[(1,⟨.box,[.c (.sh 107 (typ dNote eNoteS f.disk.notes)),.c (.n .i64 f.disk.safe),.c (.sh 69 (typ dFTx eFTxS f.way))],[]⟩),(3,(k1 (oMsgs (x.1)))),(4,(k1 (.n .i64 (x.2:Int)))),(6,(k1 .any))]⟩)],[(3,[(1000000,[])]),(11,[(1000000,[])])],[],[]⟩) tab_ok mixed Tryz.func205 rfl Tryz.ntmps205 (rvs:=[.tmp 2]) Tryz.results205 rfl fun hl=>?_
 refine cast (show (let k_3:Prop:=((∀ (k:Nat),True/\True)/\True)/\True;let k_2:Prop:=q_e f.disk.notes f.disk.notes/\f.disk.safe=f.disk.safe/\q_h f.way f.way;let k_1:Prop:=((∀ (k:Nat),True/\True/\True/\True/\True/\True/\True/\True/\True/\True/\True/\True)/\True)/\True;∃ (b:Front),(q_e f.disk.notes b.disk.notes/\f.disk.safe=b.disk.safe/\q_h f.way b.way)/\((!froB b)=true->cnRs (raw [])=t_g (tickF f))/\((!froB b)=false->∃ (pre:List Msg×Nat->Prop),∃ (μ:List Msg×Nat->Nat),∃ (x0:List Msg×Nat),(k_2/\cnRs (raw [])=t_g x0.1/\i_0=zi x0.2/\True)/\pre x0/\(∀ (x:List Msg×Nat),pre x->(decide (zi x.2<zi f.way.length)=true->(i_0<=zi x.2/\zi x.2<zi f.way.length)/\((g_FTx f.way x.2).yes=true->∃ (b:Unit),True/\(∃ (b:y_10),(cnRs (frozenRs (typ i_0 eI [i_1,i_2,i_3]))=t_I b.1/\q_I (g_FTx f.way x.2).know b.2)/\b.1.length<=n_1000/\k_3/\(∃ (b_1:y_20),(i_2=b_1.1/\(g_FTx f.way x.2).tx=b_1.2.1/\(i_0=b_1.2.2.1.kind/\i_0=b_1.2.2.1.who/\i_0=b_1.2.2.1.inn/\i_0=b_1.2.2.1.code/\i_0=b_1.2.2.1.sec/\i_0=b_1.2.2.1.fam/\i_0=b_1.2.2.1.gen)/\cnRs (frozenRs (typ i_0 eI (lessP b.1 b.2)))=t_I b_1.2.2.2)/\b_1.2.2.2.length<=n_1000/\k_1/\(x.1.length+(sendF b_1.1 b_1.2.1 b_1.2.2.1 b_1.2.2.2).length)*n_88<=n_140737488355328/\(∃ (y:List Msg×Nat),(k_2/\cnRs (appR (typ dMsg eMsg x.1) (typ dMsg eMsg (sendF b_1.1 b_1.2.1 b_1.2.2.1 b_1.2.2.2)))=t_g y.1/\wr_ ((zi x.2)+i_1)=zi y.2/\True)/\pre y/\μ y<μ x))))/\((g_FTx f.way x.2).yes=false->∃ (b:Opr),((g_FTx f.way x.2).op.kind=b.kind/\(g_FTx f.way x.2).op.who=b.who/\(g_FTx f.way x.2).op.inn=b.inn/\(g_FTx f.way x.2).op.code=b.code/\(g_FTx f.way x.2).op.sec=b.sec/\(g_FTx f.way x.2).op.fam=b.fam/\(g_FTx f.way x.2).op.gen=b.gen)/\(∃ (b_1:y_10),(cnRs (frozenRs (typ i_0 eI (placesL b)))=t_I b_1.1/\q_I (g_FTx f.way x.2).can b_1.2)/\b_1.1.length<=n_1000/\k_3/\(∃ (b:y_20),(i_1=b.1/\(g_FTx f.way x.2).tx=b.2.1/\((g_FTx f.way x.2).op.kind=b.2.2.1.kind/\(g_FTx f.way x.2).op.who=b.2.2.1.who/\(g_FTx f.way x.2).op.inn=b.2.2.1.inn/\(g_FTx f.way x.2).op.code=b.2.2.1.code/\(g_FTx f.way x.2).op.sec=b.2.2.1.sec/\(g_FTx f.way x.2).op.fam=b.2.2.1.fam/\(g_FTx f.way x.2).op.gen=b.2.2.1.gen)/\cnRs (frozenRs (typ i_0 eI (lessP b_1.1 b_1.2)))=t_I b.2.2.2)/\b.2.2.2.length<=n_1000/\k_1/\(x.1.length+(sendF b.1 b.2.1 b.2.2.1 b.2.2.2).length)*n_88<=n_140737488355328/\(∃ (y:List Msg×Nat),(k_2/\cnRs (appR (typ dMsg eMsg x.1) (typ dMsg eMsg (sendF b.1 b.2.1 b.2.2.1 b.2.2.2)))=t_g y.1/\wr_ ((zi x.2)+i_1)=zi y.2/\True)/\pre y/\μ y<μ x)))))/\(decide (zi x.2<zi f.way.length)=false->q_g x.1 (tickF f)))))=_ by kernel_rfl) ?_
 delta i_0 i_1 i_2 i_3 wr_ zi t_I q_I n_140737488355328 n_1000 y_10 t_e q_e t_g q_g n_88 g_FTx t_h q_h y_20
 simp only [zza,zzb,true_and,and_true,and_self,ne_eq,cI_app,cWrtO_app,cWrtS_app,cWrtO_1,cItemO_1,opr_ex,zcast,frz_nil,nil_map,Option.getD_none,Option.getD_some]
 refine ⟨fun h=>?_,fun h=>?_⟩
 ·simp at h;simp [tickF,h]
 simp at h
 obtain ⟨g1,g2,g3,g4⟩:=froB_parts h
 simp only [tickF,h,if_true]
 refine ⟨fun x=>x.2<=f.way.length/\x.1=(f.way.take x.2).flatMap tickT,⟨by omega,rfl⟩,fun x=>f.way.length-x.2,fun a i hp=>?_⟩
 obtain ⟨h1,h2⟩:=hp
 simp only at h1 h2
 have hl2:=tick_len (f.way.take i)
 rw [<- h2,List.length_take] at hl2
 have go:i<f.way.length->∀ v,v=a++tickT (f.way.getD i dFTx)->∃ y:Nat,IntKind.i64.wrap ((i:Int)+1)=(y:Int)/\(y<=f.way.length/\v=(f.way.take y).flatMap tickT)/\f.way.length-y<f.way.length-i:=fun hlt v hv =>
  ⟨i+1,wrapN (by omega),⟨by omega,by rw [hv,take_succ (d:=dFTx) hlt,h2,List.flatMap_append];simp⟩,by omega⟩
 have h3:=places_len3 (f.way.getD i dFTx).op
 have h4:=lessP_len [1,2,3] (f.way.getD i dFTx).know
 have h5:=lessP_len (placesL (f.way.getD i dFTx).op) (f.way.getD i dFTx).can
 simp only [List.length_cons,List.length_nil] at h4
 refine ⟨fun hlt=>⟨by omega,hlt,fun e=>⟨by simp,by omega,by rw [sendF_len];omega,(),_,by rw [cnRs_app,cMsg,cMsg,<- List.map_append],go (by omega) _ ?_⟩,fun e=>⟨by omega,by omega,by rw [sendF_len];omega,_,by rw [cnRs_app,cMsg,cMsg,<- List.map_append],go (by omega) _ ?_⟩⟩,fun hge=>?_⟩
 ·simp only [tickT,e,if_true]<;>try rfl
 ·simp only [tickT,e,Bool.false_eq_true,if_false]<;>try rfl
 ·have:i=f.way.length:=by omega
  rw [h2,this,List.take_length]
def spec_FroTick_c:Con Tryz.prog:=con0 [.lend] fun b:Front=>spec_FroTick_ok b
theorem spec_l6Gone_ok (f:Front) (at_:Nat) (hpre:at_<f.way.length/\f.way.length<=1000):FunOK Tryz.prog 122 2 [] [(0,kFrontM f),(1,kI at_)] (·=[(2,kFrontM (goneF f at_))]):=by
 refine fun_to (E:=⟨tab,ctOf [],21,[],[(0,[1,2,4,20]),(1,[1,2,4,5,6,7,8,9,10,11,20]),(2,[2,4,20]),(3,[2,4,20])],[],[(1,[(0,[2])]),(2,[(1000000,[])])],[],[]⟩) tab_ok mixed Tryz.func122 rfl Tryz.ntmps122 (rvs:=[.cell 4 38]) Tryz.results122 rfl fun hl=>?_
 refine cast (show ((i_0<=none.getD i_0/\none.getD i_0<=(some (zi at_)).getD (zi f.way.length)/\(some (zi at_)).getD (zi f.way.length)<=zi f.way.length)/\(n_0+(((some (zi at_)).getD (zi f.way.length)).toNat-(none.getD i_0).toNat))*n_120<=n_140737488355328/\(i_0<=(some (wr_ ((zi at_)+i_1))).getD i_0/\(some (wr_ ((zi at_)+i_1))).getD i_0<=none.getD (zi f.way.length)/\none.getD (zi f.way.length)<=zi f.way.length)/\(n_0+(((some (zi at_)).getD (zi f.way.length)).toNat-(none.getD i_0).toNat)+((none.getD (zi f.way.length)).toNat-((some (wr_ ((zi at_)+i_1))).getD i_0).toNat))*n_120<=n_140737488355328/\q_e f.disk.notes (goneF f at_).disk.notes/\f.disk.safe=(goneF f at_).disk.safe/\cnRs (appR (appR (raw []) (cutR (frozenRs (typ dFTx eFTxS f.way)) (none.getD i_0).toNat ((some (zi at_)).getD (zi f.way.length)).toNat)) (cutR (frozenRs (typ dFTx eFTxS f.way)) ((some (wr_ ((zi at_)+i_1))).getD i_0).toNat (none.getD (zi f.way.length)).toNat))=t_h (goneF f at_).way)=_ by kernel_rfl) ?_
 delta i_0 i_1 wr_ zi n_0 n_140737488355328 t_e q_e t_h n_120
 obtain ⟨p1,p2⟩:=hpre
 simp only [zza,zzb,true_and,and_true,and_self,ne_eq,cI_app,cWrtO_app,cWrtS_app,cWrtO_1,cItemO_1,opr_ex,zcast,frz_nil,nil_map,Option.getD_none,Option.getD_some]
 rw [wrapN (by omega)]
 have hi:Int.toNat 0=0:=rfl
 rw [hi]
 refine ⟨by omega,by omega,by omega,by omega,by omega,by omega,by omega,by rw [Int.toNat_natCast];omega,rfl,rfl,?_⟩
 rw [Int.toNat_natCast,cnRs_app,cnRs_app,cut_typ _ (by omega),cut_typ _ (Nat.le_refl _),List.take_length,List.drop_zero,cFTxS,cFTxS,cnRs_raw,List.map_nil,List.nil_append,<- List.map_append,<- List.eraseIdx_eq_take_drop_succ]
 rfl
def spec_l6Gone_c:Con Tryz.prog:=conP [.give,.lend] fun (b:Front×Nat) h=>spec_l6Gone_ok (b.1) (b.2) h
theorem spec_l6No_ok (f:Front) (at_:Nat) (hpre:at_<f.way.length/\f.way.length<=1000):FunOK Tryz.prog 82 2 [] [(0,kFrontM f),(1,kI at_)] (·=[(2,⟨.tup [(true,3),(false,1),(false,1)],[.c (sNotes (noF f at_).1.disk.notes),.c (.n .i64 (noF f at_).1.disk.safe),.c (mFTxs (noF f at_).1.way),.c (oMsgs (noF f at_).2.1),.c (oFOuts (noF f at_).2.2)],[]⟩)]):=by
 refine fun_to (E:=⟨tab,ctOf [spec_l6Send_c,spec_OpPlaces_c,spec_l6Gone_c],27,[],[(0,[1,2,4,15]),(1,[1,2,4,7,15]),(2,[4,5,6,15,22,25,26])],[],[],[],[]⟩) tab_ok mixed Tryz.func82 rfl Tryz.ntmps82 (rvs:=[.cell 4 38,.tmp 5,.tmp 6]) Tryz.results82 rfl fun hl=>?_
 refine cast (show ((i_0<=zi at_/\zi at_<zi f.way.length)/\(zi at_).toNat<f.way.length/\∃ (b:Front×Nat),((q_e f.disk.notes b.1.disk.notes/\f.disk.safe=b.1.disk.safe/\q_h f.way b.1.way)/\zi at_=zi b.2)/\(b.2<b.1.way.length/\b.1.way.length<=n_1000)/\∃ (b_1:Opr),((g_FTx f.way at_).op.kind=b_1.kind/\(g_FTx f.way at_).op.who=b_1.who/\(g_FTx f.way at_).op.inn=b_1.inn/\(g_FTx f.way at_).op.code=b_1.code/\(g_FTx f.way at_).op.sec=b_1.sec/\(g_FTx f.way at_).op.fam=b_1.fam/\(g_FTx f.way at_).op.gen=b_1.gen)/\∃ (b_2:y_20),(i_3=b_2.1/\(g_FTx f.way at_).tx=b_2.2.1/\(i_0=b_2.2.2.1.kind/\i_0=b_2.2.2.1.who/\i_0=b_2.2.2.1.inn/\i_0=b_2.2.2.1.code/\i_0=b_2.2.2.1.sec/\i_0=b_2.2.2.1.fam/\i_0=b_2.2.2.1.gen)/\cnRs (frozenRs (typ i_0 eI (placesL b_1)))=t_I b_2.2.2.2)/\b_2.2.2.2.length<=n_1000/\(((∀ (k:Nat),True/\True/\True/\True/\True/\True/\True/\True/\True/\True/\True/\True)/\True)/\True)/\q_e (goneF b.1 b.2).disk.notes (noF f at_).1.disk.notes/\(goneF b.1 b.2).disk.safe=(noF f at_).1.disk.safe/\q_h (goneF b.1 b.2).way (noF f at_).1.way/\q_g (sendF b_2.1 b_2.2.1 b_2.2.2.1 b_2.2.2.2) (noF f at_).2.1/\cnRs (raw [[cn_ (g_FTx f.way at_).tx,CV.b false]])=t_k (noF f at_).2.2)=_ by kernel_rfl) ?_
 delta i_0 i_3 zi t_I n_1000 cn_ t_e q_e t_g q_g g_FTx t_h q_h y_20 t_k
 obtain ⟨p1,p2⟩:=hpre
 simp only [zza,zzb,true_and,and_true,and_self,ne_eq,cI_app,cWrtO_app,cWrtS_app,cWrtO_1,cItemO_1,opr_ex,zcast,frz_nil,nil_map,Option.getD_none,Option.getD_some]
 have:=places_len3 (f.way.getD at_ dFTx).op
 refine ⟨by omega,by omega,p1,p1,p2,by omega,rfl,rfl,rfl,rfl,?_⟩
 simp [noF]
def spec_l6No_c:Con Tryz.prog:=conP [.give,.lend] fun (b:Front×Nat) h=>spec_l6No_ok (b.1) (b.2) h
theorem spec_l6Begin_ok (f:Front) (tx:Int) (o:Opr) (hpre:f.disk.notes.length<=1000/\f.way.length<=1000):FunOK Tryz.prog 65 3 [] [(0,kFrontM f),(1,kI tx),(2,kOp o)] (·=[(3,⟨.tup [(true,3),(false,1),(false,1)],[.c (sNotes (beginF f tx o).1.disk.notes),.c (.n .i64 (beginF f tx o).1.disk.safe),.c (mFTxs (beginF f tx o).1.way),.c (oMsgs (beginF f tx o).2.1),.c (.b (beginF f tx o).2.2)],[]⟩)]):=by
 refine fun_to (E:=⟨tab,ctOf [spec_l2Of_c,spec_l6At_c,spec_l6Send_c,spec_OpPlaces_c],69,[],[(0,[1,3,5,6,53,54,63,68]),(1,[1,3,5,6,52,53,54,63,68]),(2,[3,6,7,8,53,54,63,68]),(3,[1,3,5,6,53,54,63]),(4,[3,6,7,8,53,54,63,68])],[],[(3,[(5,[59])])],[(1,⟨Bool,fun x=>[(1,(k1 (.n .i64 tx))),(3,⟨.box,[.c (.sh 107 (typ dNote eNoteS f.disk.notes)),.c (.n .i64 f.disk.safe),.c (.ow 69 (typ dFTx eFTxS f.way))],[]⟩),(5,⟨.box,[.c (.n .i64 o.kind),.c (.n .i64 o.who),.c (.n .i64 o.inn),.c (.n .i64 o.code),.c (.n .i64 o.sec),.c (.n .i64 o.fam),.c (.n .i64 o.gen)],[]⟩),(6,⟨.box,[.c (.ow 107 nilR),.c (.n .i64 ((0:Int))),.c (.ow 69 nilR)],[]⟩),(52,(k1 (.b (x))))]⟩)],[]⟩) tab_ok mixed Tryz.func65 rfl Tryz.ntmps65 (rvs:=[.cell 6 38,.tmp 7,.tmp 8]) Tryz.results65 rfl fun hl=>?_
 refine cast (show (let k_5:Prop:=f.disk.safe=(beginF f tx o).1.disk.safe;let k_4:Prop:=q_e f.disk.notes (beginF f tx o).1.disk.notes;let k_3:Prop:=cnRs nilR=cnRs nilR/\i_0=i_0/\cnRs nilR=cnRs nilR;let k_2:Prop:=q_e f.disk.notes f.disk.notes/\f.disk.safe=f.disk.safe/\q_h f.way f.way;let k_1:Prop:=o.kind=o.kind/\o.who=o.who/\o.inn=o.inn/\o.code=o.code/\o.sec=o.sec/\o.fam=o.fam/\o.gen=o.gen;∃ (post:Bool->Prop),let k_7:Prop:=∃ (x:Bool),(tx=tx/\k_2/\k_1/\k_3/\true=x)/\post x;let k_6:Prop:=∃ (x:Bool),(tx=tx/\k_2/\k_1/\k_3/\decide (wr_ (wr_ ((zi f.disk.notes.length)+wr_ (i_2*(zi f.way.length)))+i_2)>i_120)=x)/\post x;(∃ (b:Front×Int),((q_e f.disk.notes b.1.disk.notes/\f.disk.safe=b.1.disk.safe/\cnRs (frozenRs (typ dFTx eFTxS f.way))=t_h b.1.way)/\tx=b.2)/\(decide (atF b.1.way b.2≥i_0)=false->∃ (b:List Note×Int),(q_e f.disk.notes b.1/\tx=b.2)/\((ofN b.1 b.2 != i_0)=false->(decide ((zi f.way.length)>i_0)=true->(i_0<=wr_ ((zi f.way.length)-i_1)/\wr_ ((zi f.way.length)-i_1)<zi f.way.length)/\(wr_ ((zi f.way.length)-i_1)).toNat<f.way.length/\(decide ((f.way.getD (wr_ ((zi f.way.length)-i_1)).toNat dFTx).tx>tx)=false->k_6)/\(decide ((f.way.getD (wr_ ((zi f.way.length)-i_1)).toNat dFTx).tx>tx)=true->k_7))/\(decide ((zi f.way.length)>i_0)=false->k_6))/\((ofN b.1 b.2 != i_0)=true->k_7))/\(decide (atF b.1.way b.2≥i_0)=true->k_7))/\(∀ (x:Bool),post x->(x=true->k_4/\k_5/\q_h f.way (beginF f tx o).1.way/\cnRs (raw [])=t_g (beginF f tx o).2.1/\false=(beginF f tx o).2.2)/\(x=false->(f.way.length+n_1)*n_120<=n_140737488355328/\(∃ (b:Opr),(o.kind=b.kind/\o.who=b.who/\o.inn=b.inn/\o.code=b.code/\o.sec=b.sec/\o.fam=b.fam/\o.gen=b.gen)/\(∃ (b_1:y_20),(i_1=b_1.1/\tx=b_1.2.1/\(o.kind=b_1.2.2.1.kind/\o.who=b_1.2.2.1.who/\o.inn=b_1.2.2.1.inn/\o.code=b_1.2.2.1.code/\o.sec=b_1.2.2.1.sec/\o.fam=b_1.2.2.1.fam/\o.gen=b_1.2.2.1.gen)/\cnRs (frozenRs (typ i_0 eI (placesL b)))=t_I b_1.2.2.2)/\b_1.2.2.2.length<=n_1000/\(((∀ (k:Nat),True/\True/\True/\True/\True/\True/\True/\True/\True/\True/\True/\True)/\True)/\True)/\k_4/\k_5/\cnRs (appR (typ dFTx eFTxS f.way) (raw [[cn_ tx,cn_ o.kind,cn_ o.who,cn_ o.inn,cn_ o.code,cn_ o.sec,cn_ o.fam,cn_ o.gen,CV.b false,CV.sh n_3 (frozenRs nilR),CV.sh n_3 (frozenRs nilR)]]))=t_h (beginF f tx o).1.way/\q_g (sendF b_1.1 b_1.2.1 b_1.2.2.1 b_1.2.2.2) (beginF f tx o).2.1/\true=(beginF f tx o).2.2)))))=_ by kernel_rfl) ?_
 delta i_0 i_1 i_2 wr_ zi t_I n_140737488355328 n_1 n_3 n_1000 cn_ t_e q_e i_120 t_g q_g t_h q_h y_20 n_120
 obtain ⟨p1,p2⟩:=hpre
 simp only [zza,zzb,true_and,and_true,and_self,ne_eq,cI_app,cWrtO_app,cWrtS_app,cWrtO_1,cItemO_1,opr_ex,zcast,frz_nil,nil_map,Option.getD_none,Option.getD_some]
 have h3:=places_len3 o
 have e1:IntKind.i64.wrap (2*(f.way.length:Int))=2*(f.way.length:Int):=IntWalk.i64_in _ (by omega)
 rw [e1,IntWalk.i64_in ((f.disk.notes.length:Int)+2*(f.way.length:Int)) (by omega),IntWalk.i64_in ((f.disk.notes.length:Int)+2*(f.way.length:Int)+2) (by omega)]
 refine ⟨fun z=>(z=true↔noBegin f tx),fun h1=>⟨fun h2=>⟨fun h4=>?_,fun h4=>?_⟩,fun h2=>?_⟩,fun h1=>?_,fun z hz=>⟨fun h=>?_,fun h=>?_⟩⟩
 ·have hw:IntKind.i64.wrap ((f.way.length:Int)-1)=((f.way.length-1:Nat):Int):=by rw [IntWalk.i64_in _ (by omega)];omega
  rw [hw,Int.toNat_natCast]
  simp at h2
  refine ⟨by omega,by omega,by omega,fun h5=>?_,fun h5=>?_⟩
  ·simp only [noBegin,decide_eq_true_eq,h2];omega
  ·simp only [noBegin,true_iff];right;right;left;exact ⟨by omega,h5⟩
 ·simp at h2
  simp only [noBegin,decide_eq_true_eq,h2];omega
 ·simp only [noBegin,true_iff];exact .inr (.inl h2)
 ·simp only [noBegin,true_iff];exact .inl h1
 ·simp only [beginF,if_pos (hz.1 h),and_self]
 ·have hn:¬ noBegin f tx:=fun h2=>by rw [hz.2 h2] at h;cases h
  simp only [beginF,if_neg hn,true_and,and_true]
  refine ⟨by omega,by omega,?_⟩
  simp
def spec_l6Begin_c:Con Tryz.prog:=conP [.give,.lend,.lend] fun (b:Front×Int×Opr) h=>spec_l6Begin_ok (b.1) (b.2.1) (b.2.2) h
end Go.Proofs.AI
namespace Go.Proofs.AI
open Go.RowKit Go.Proofs
set_option linter.unusedVariables false
set_option linter.unusedSimpArgs false
set_option maxRecDepth 100000
def setT (f:Front) (k:Nat) (t:FTx):Front:=⟨f.disk,f.way.set k t⟩
def knowT (t:FTx) (frm:Int):FTx:=⟨t.tx,t.op,t.yes,t.can,putP t.know frm⟩
def canT (t:FTx) (frm:Int):FTx:=⟨t.tx,t.op,t.yes,putP t.can frm,t.know⟩
def yesT (t:FTx):FTx:=⟨t.tx,t.op,true,t.can,t.know⟩
def knowF (f:Front) (at_:Nat) (frm:Int):Front :=
 if (putP (f.way.getD at_ dFTx).know frm).length<3 then setT f at_ (knowT (f.way.getD at_ dFTx) frm) else
 if (addD f.disk ⟨4,(f.way.getD at_ dFTx).tx,[],[]⟩ false).2=true then ⟨(addD f.disk ⟨4,(f.way.getD at_ dFTx).tx,[],[]⟩ false).1,f.way.eraseIdx at_⟩ else setT f at_ (knowT (f.way.getD at_ dFTx) frm)
def canF (f:Front) (at_:Nat) (frm:Int):Front×List Msg×List FOut :=
 if 0<(lessP (placesL (f.way.getD at_ dFTx).op) (putP (f.way.getD at_ dFTx).can frm)).length then (setT f at_ (canT (f.way.getD at_ dFTx) frm),[],[]) else
 if (addD f.disk ⟨2,(f.way.getD at_ dFTx).tx,[],[]⟩ true).2=true then (⟨(addD f.disk ⟨2,(f.way.getD at_ dFTx).tx,[],[]⟩ true).1,f.way.set at_ (yesT (canT (f.way.getD at_ dFTx) frm))⟩,sendF 2 (f.way.getD at_ dFTx).tx dOpr [1,2,3],[⟨(f.way.getD at_ dFTx).tx,true⟩]) else
 noF (setT f at_ (canT (f.way.getD at_ dFTx) frm)) at_
def endP (tx:Int) (n:Note):Bool:=n.tx==tx&&n.kind==4
def lives (ns:List Note) (tx:Int):Bool:=ofN ns tx==2&&!(ns.any (endP tx))
def fallW (ns:List Note) (k:Nat):List FTx:=((List.range k).filter fun (i:Nat)=>lives ns (i:Int)).map fun (i:Nat)=>⟨(i:Int),dOpr,true,[],[]⟩
def fallF (f:Front) (keep:Int):Front:=if froB f=true then ⟨fallD f.disk keep,fallW (fallD f.disk keep).notes 30⟩ else ⟨⟨[],0⟩,[]⟩
theorem cSetT (l:List FTx) (k o:Nat) (x:CV) (t:FTx) (h:(nFTxS (l.getD k dFTx)).set o (cn x)=nFTxS t):cnRs (setF (typ dFTx eFTxS l) k o x)=(l.set k t).map nFTxS:=by
 rw [cnRs_setF,cFTxS]
 apply List.ext_getElem?
 intro i
 simp only [List.getElem?_modify,List.getElem?_map,List.getElem?_set]
 by_cases hk:k=i
 ·subst hk
  by_cases hl:k<l.length
  ·rw [getD_lt hl] at h
   simp [-nFTxS_d,hl,h]
  ·simp [hl]
 ·cases l[i]?<;>simp [hk]
theorem fallW_succ (ns:List Note) (k:Nat):fallW ns (k+1)=if lives ns (k:Int)=true then fallW ns k++[⟨(k:Int),dOpr,true,[],[]⟩] else fallW ns k:=by
 simp only [fallW,List.range_succ,List.filter_append,List.filter_cons,List.filter_nil,List.map_append]
 split<;>simp
theorem fallW_len (ns:List Note) (k:Nat):(fallW ns k).length<=k:=by
 simp only [fallW,List.length_map]
 have:=List.length_filter_le (fun (i:Nat)=>lives ns (i:Int)) (List.range k)
 simpa using this
theorem fallW_mem {ns:List Note} {k:Nat} {t:FTx} (h:t∈fallW ns k):∃ i:Nat,i<k/\lives ns (i:Int)=true/\t=⟨(i:Int),dOpr,true,[],[]⟩:=by
 simp only [fallW,List.mem_map,List.mem_filter,List.mem_range] at h
 obtain ⟨i,⟨h1,h2⟩,rfl⟩:=h
 exact ⟨i,h1,h2,rfl⟩
theorem fallD_ok {d:Disk} (h:diskB d=true) (keep:Int):diskB (fallD d keep)=true:=by
 obtain ⟨_,g2,g3,g4⟩:=diskB_small h
 simp only [fallD,h,if_true]
 have:(d.notes.take (d.safe+max 0 (min keep (d.notes.length-d.safe))).toNat).length=(d.safe+max 0 (min keep (d.notes.length-d.safe))).toNat:=by rw [List.length_take];omega
 simp only [diskB,this,Bool.and_eq_true,decide_eq_true_eq]
 refine ⟨⟨by omega,?_⟩,List.all_eq_true.2 fun n hn=>g4 n (List.mem_of_mem_take hn)⟩
 simp only [inR,Bool.and_eq_true,decide_eq_true_eq]
 omega
theorem erase_set {α:Type} (l:List α) (k:Nat) (x:α):(l.set k x).eraseIdx k=l.eraseIdx k:=by
 apply List.ext_getElem?
 intro i
 simp only [List.getElem?_eraseIdx,List.getElem?_set]
 split
 ·rw [if_neg (by omega)]
 ·rw [if_neg (by omega)]
theorem spec_l6Know_ok (f:Front) (at_:Nat) (frm:Int) (hpre:at_<f.way.length/\f.way.length<=1000/\(f.way.getD at_ dFTx).know.length<=1000):FunOK Tryz.prog 80 3 [] [(0,kFrontM f),(1,kI at_),(2,kI frm)] (·=[(3,kFrontM (knowF f at_ frm))]):=by
 refine fun_to (E:=⟨tab,ctOf [spec_l6Put_c,spec_DiskAdd_c,spec_l6Gone_c],52,[],[(0,[1,2,3,6,30,46,51]),(1,[1,3,6,30,46,51]),(2,[1,3,6,29,30,46,51]),(3,[3,6,30,46,51]),(4,[1,3,6,7,8,30,46,51]),(5,[1,3,6,7,30,45,46,51]),(6,[3,6,30,46,51]),(7,[1,3,6,30,46,51]),(8,[3,6,30,46,51])],[],[(1,[(13,[19])]),(4,[(10,[41])])],[(1,⟨List FTx,fun x=>[(1,(k1 (.n .i64 ((↑at_:Int))))),(3,⟨.box,[.c (.sh 107 (typ dNote eNoteS f.disk.notes)),.c (.n .i64 f.disk.safe),.c (mFTxs (x))],[]⟩),(6,⟨.box,[.c (.ow 107 nilR),.c (.n .i64 ((0:Int))),.c (.ow 69 nilR)],[]⟩)]⟩)],[]⟩) tab_ok mixed Tryz.func80 rfl Tryz.ntmps80 (rvs:=[.cell 6 38]) Tryz.results80 rfl fun hl=>?_
 refine cast (show (let k_3:Prop:=i_0<=zi at_/\zi at_<zi f.way.length;let k_2:Prop:=f.disk.safe=(knowF f at_ frm).disk.safe;let k_1:Prop:=q_e f.disk.notes (knowF f at_ frm).disk.notes;∃ (post:List FTx->Prop),(k_3/\(zi at_).toNat<f.way.length/\(∃ (b:List Int×Int),(q_I (g_FTx f.way at_).know b.1/\frm=b.2)/\b.1.length<=n_1000/\k_3/\(zi at_).toNat<f.way.length/\(∃ (x:List FTx),(zi at_=zi at_/\(q_e f.disk.notes f.disk.notes/\f.disk.safe=f.disk.safe/\cnRs (setF (typ dFTx eFTxS f.way) (zi at_).toNat n_10 (CV.sh n_3 (frozenRs (typ i_0 eI (putP b.1 b.2)))))=t_h x)/\cnRs nilR=cnRs nilR/\i_0=i_0/\cnRs nilR=cnRs nilR)/\post x)))/\(∀ (x:List FTx),let k_5:Prop:=i_0<=zi at_/\zi at_<zi x.length;let k_4:Prop:=k_1/\k_2/\q_h x (knowF f at_ frm).way;post x->k_5/\(zi at_).toNat<x.length/\(decide ((zi (g_FTx x at_).know.length)<i_3)=true->k_4)/\(decide ((zi (g_FTx x at_).know.length)<i_3)=false->k_5/\(zi at_).toNat<x.length/\(∃ (b:y_18),((q_e f.disk.notes b.1.notes/\f.disk.safe=b.1.safe)/\(i_4=b.2.1.kind/\(g_FTx x at_).tx=b.2.1.tx/\cnRs (frozenRs nilR)=t_S b.2.1.locks/\cnRs (frozenRs nilR)=t_c b.2.1.writes)/\false=b.2.2)/\(((∀ (k:Nat),True/\True/\(∀ (k:Nat),True/\True)/\(∀ (k:Nat),True/\True/\(∀ (k:Nat),True/\True)/\True)/\True)/\True/\True/\True)/\True)/\((!(addD b.1 b.2.1 b.2.2).2)=true->k_4)/\((!(addD b.1 b.2.1 b.2.2).2)=false->∃ (b_1:Front×Nat),((cnRs (frozenRs (typ dNote eNoteO (addD b.1 b.2.1 b.2.2).1.notes))=t_e b_1.1.disk.notes/\(addD b.1 b.2.1 b.2.2).1.safe=b_1.1.disk.safe/\q_h x b_1.1.way)/\zi at_=zi b_1.2)/\(b_1.2<b_1.1.way.length/\b_1.1.way.length<=n_1000)/\q_e (goneF b_1.1 b_1.2).disk.notes (knowF f at_ frm).disk.notes/\(goneF b_1.1 b_1.2).disk.safe=(knowF f at_ frm).disk.safe/\q_h (goneF b_1.1 b_1.2).way (knowF f at_ frm).way)))))=_ by kernel_rfl) ?_
 delta i_0 i_3 i_4 zi t_I q_I n_3 t_c n_1000 t_S n_10 t_e q_e y_18 g_FTx t_h q_h
 obtain ⟨p1,p2,p3⟩:=hpre
 simp only [zza,zzb,true_and,and_true,and_self,ne_eq,cI_app,cWrtO_app,cWrtS_app,cWrtO_1,cItemO_1,opr_ex,zcast,frz_nil,nil_map,Option.getD_none,Option.getD_some]
 refine ⟨by omega,by omega,p1,p3,by omega,by omega,p1,fun z=>z=f.way.set at_ (knowT (f.way.getD at_ dFTx) frm),⟨_,cSetT _ _ _ _ (knowT (f.way.getD at_ dFTx) frm) (by simp [knowT]),rfl⟩,fun z hz=>?_⟩
 subst hz
 rw [getD_set_eq _ p1,List.length_set]
 simp only [knowF]
 generalize f.way.getD at_ dFTx=T
 refine ⟨by omega,by omega,p1,fun h=>?_,fun h=>⟨by omega,by omega,p1,fun h2=>?_,fun h2=>?_⟩⟩
 ·have h:(putP T.know frm).length<3:=by simp only [knowT] at h;omega
  simp only [if_pos h,setT,and_self]
 ·have h:¬ (putP T.know frm).length<3:=by simp only [knowT] at h;omega
  have h2:(addD f.disk ⟨4,T.tx,[],[]⟩ false).2=false:=by simpa only [Bool.not_eq_true',knowT] using h2
  simp only [if_neg h,h2,Bool.false_eq_true,if_false,setT,and_self]
 ·have h:¬ (putP T.know frm).length<3:=by simp only [knowT] at h;omega
  have h2:(addD f.disk ⟨4,T.tx,[],[]⟩ false).2=true:=by simpa only [Bool.not_eq_false',knowT] using h2
  simp only [if_neg h,h2,if_true,goneF,erase_set,knowT,true_and,and_true]
  exact ⟨p1,p2⟩
def spec_l6Know_c:Con Tryz.prog:=conP [.give,.lend,.lend] fun (b:Front×Nat×Int) h=>spec_l6Know_ok (b.1) (b.2.1) (b.2.2) h
theorem spec_l6Can_ok (f:Front) (at_:Nat) (frm:Int) (hpre:at_<f.way.length/\f.way.length<=1000/\(f.way.getD at_ dFTx).can.length<=1000):FunOK Tryz.prog 81 3 [] [(0,kFrontM f),(1,kI at_),(2,kI frm)] (·=[(3,⟨.tup [(true,3),(false,1),(false,1)],[.c (sNotes (canF f at_ frm).1.disk.notes),.c (.n .i64 (canF f at_ frm).1.disk.safe),.c (mFTxs (canF f at_ frm).1.way),.c (oMsgs (canF f at_ frm).2.1),.c (oFOuts (canF f at_ frm).2.2)],[]⟩)]):=by
 refine fun_to (E:=⟨tab,ctOf [spec_l6No_c,spec_l6Send_c,spec_OpPlaces_c,spec_l6Put_c,spec_DiskAdd_c,spec_l6Less_c,spec_l6All_c],75,[],[(0,[1,2,3,6,38,39,40,54,55,56,57,65,70,73,74]),(1,[1,3,6,38,39,40,54,55,56,57,65,70,73,74]),(2,[1,3,6,9,38,39,40,54,55,56,57,65,70,73,74]),(3,[1,3,6,9,37,38,39,40,54,55,56,57,65,70,73,74]),(4,[3,6,7,8,38,39,40,54,55,56,57,65,70,73,74]),(5,[1,3,6,9,10,11,38,39,40,54,55,56,57,65,70,73,74]),(6,[1,3,6,9,10,38,39,40,51,54,55,56,57,65,70,73,74]),(7,[3,6,7,8,38,39,40,54,55,56,57,65,70,73,74]),(8,[1,3,6,9,38,39,40,54,55,56,57,65]),(9,[3,6,9,38,39,40,54,55,56,57,65]),(10,[3,6,7,8,38,39,40,54,55,56,57,65,70,73,74])],[],[(1,[(13,[22])]),(5,[(6,[47])])],[(1,⟨List FTx,fun x=>[(1,(k1 (.n .i64 ((↑at_:Int))))),(3,⟨.box,[.c (.sh 107 (typ dNote eNoteS f.disk.notes)),.c (.n .i64 f.disk.safe),.c (mFTxs (x))],[]⟩),(6,⟨.box,[.c (.ow 107 nilR),.c (.n .i64 ((0:Int))),.c (.ow 69 nilR)],[]⟩)]⟩)],[]⟩) tab_ok mixed Tryz.func81 rfl Tryz.ntmps81 (rvs:=[.cell 6 38,.tmp 7,.tmp 8]) Tryz.results81 rfl fun hl=>?_
 refine cast (show (let k_2:Prop:=∀ (k:Nat),True/\True;let k_1:Prop:=i_0<=zi at_/\zi at_<zi f.way.length;∃ (post:List FTx->Prop),(k_1/\(zi at_).toNat<f.way.length/\(∃ (b:List Int×Int),(q_I (g_FTx f.way at_).can b.1/\frm=b.2)/\b.1.length<=n_1000/\k_1/\(zi at_).toNat<f.way.length/\(∃ (x:List FTx),(zi at_=zi at_/\(q_e f.disk.notes f.disk.notes/\f.disk.safe=f.disk.safe/\cnRs (setF (typ dFTx eFTxS f.way) (zi at_).toNat n_9 (CV.sh n_3 (frozenRs (typ i_0 eI (putP b.1 b.2)))))=t_h x)/\cnRs nilR=cnRs nilR/\i_0=i_0/\cnRs nilR=cnRs nilR)/\post x)))/\(∀ (x:List FTx),let k_3:Prop:=i_0<=zi at_/\zi at_<zi x.length;post x->k_3/\(zi at_).toNat<x.length/\(∃ (b:Opr),((g_FTx x at_).op.kind=b.kind/\(g_FTx x at_).op.who=b.who/\(g_FTx x at_).op.inn=b.inn/\(g_FTx x at_).op.code=b.code/\(g_FTx x at_).op.sec=b.sec/\(g_FTx x at_).op.fam=b.fam/\(g_FTx x at_).op.gen=b.gen)/\(∃ (b_1:y_10),(cnRs (frozenRs (typ i_0 eI (placesL b)))=t_I b_1.1/\q_I (g_FTx x at_).can b_1.2)/\b_1.1.length<=n_1000/\((k_2/\True)/\True)/\(decide ((zi (lessP b_1.1 b_1.2).length)>i_0)=true->q_e f.disk.notes (canF f at_ frm).1.disk.notes/\f.disk.safe=(canF f at_ frm).1.disk.safe/\q_h x (canF f at_ frm).1.way/\cnRs (raw [])=t_g (canF f at_ frm).2.1/\cnRs (raw [])=t_k (canF f at_ frm).2.2)/\(decide ((zi (lessP b_1.1 b_1.2).length)>i_0)=false->∃ (b:y_18),((q_e f.disk.notes b.1.notes/\f.disk.safe=b.1.safe)/\(i_2=b.2.1.kind/\(g_FTx x at_).tx=b.2.1.tx/\cnRs (frozenRs nilR)=t_S b.2.1.locks/\cnRs (frozenRs nilR)=t_c b.2.1.writes)/\true=b.2.2)/\(((∀ (k:Nat),True/\True/\k_2/\(∀ (k:Nat),True/\True/\k_2/\True)/\True)/\True/\True/\True)/\True)/\((!(addD b.1 b.2.1 b.2.2).2)=true->∃ (b:Front×Nat),((q_e f.disk.notes b.1.disk.notes/\f.disk.safe=b.1.disk.safe/\q_h x b.1.way)/\zi at_=zi b.2)/\(b.2<b.1.way.length/\b.1.way.length<=n_1000)/\q_e (noF b.1 b.2).1.disk.notes (canF f at_ frm).1.disk.notes/\(noF b.1 b.2).1.disk.safe=(canF f at_ frm).1.disk.safe/\q_h (noF b.1 b.2).1.way (canF f at_ frm).1.way/\q_g (noF b.1 b.2).2.1 (canF f at_ frm).2.1/\q_k (noF b.1 b.2).2.2 (canF f at_ frm).2.2)/\((!(addD b.1 b.2.1 b.2.2).2)=false->k_3/\(zi at_).toNat<x.length/\(∃ (b_2:Unit),True/\(∃ (b_3:y_20),(i_2=b_3.1/\(g_FTx x at_).tx=b_3.2.1/\(i_0=b_3.2.2.1.kind/\i_0=b_3.2.2.1.who/\i_0=b_3.2.2.1.inn/\i_0=b_3.2.2.1.code/\i_0=b_3.2.2.1.sec/\i_0=b_3.2.2.1.fam/\i_0=b_3.2.2.1.gen)/\cnRs (frozenRs (typ i_0 eI [i_1,i_2,i_3]))=t_I b_3.2.2.2)/\b_3.2.2.2.length<=n_1000/\(((∀ (k:Nat),True/\True/\True/\True/\True/\True/\True/\True/\True/\True/\True/\True)/\True)/\True)/\cnRs (frozenRs (typ dNote eNoteO (addD b.1 b.2.1 b.2.2).1.notes))=t_e (canF f at_ frm).1.disk.notes/\(addD b.1 b.2.1 b.2.2).1.safe=(canF f at_ frm).1.disk.safe/\cnRs (setF (typ dFTx eFTxS x) (zi at_).toNat n_8 (CV.b true))=t_h (canF f at_ frm).1.way/\q_g (sendF b_3.1 b_3.2.1 b_3.2.2.1 b_3.2.2.2) (canF f at_ frm).2.1/\cnRs (raw [[cn_ (g_FTx x at_).tx,CV.b true]])=t_k (canF f at_ frm).2.2))))))))=_ by kernel_rfl) ?_
 delta i_0 i_1 i_2 i_3 zi t_I q_I n_8 n_3 t_c n_1000 cn_ t_S y_10 t_e q_e n_9 t_g q_g y_18 g_FTx t_h q_h y_20 t_k q_k
 obtain ⟨p1,p2,p3⟩:=hpre
 simp only [zza,zzb,true_and,and_true,and_self,ne_eq,cI_app,cWrtO_app,cWrtS_app,cWrtO_1,cItemO_1,opr_ex,zcast,frz_nil,nil_map,Option.getD_none,Option.getD_some]
 refine ⟨by omega,by omega,p1,p3,by omega,by omega,p1,fun z=>z=f.way.set at_ (canT (f.way.getD at_ dFTx) frm),⟨_,cSetT _ _ _ _ (canT (f.way.getD at_ dFTx) frm) (by simp [canT]),rfl⟩,fun z hz=>?_⟩
 subst hz
 have hg:=getD_set_eq f.way p1 (canT (f.way.getD at_ dFTx) frm) dFTx
 rw [hg,List.length_set]
 have hc:=cSetT (f.way.set at_ (canT (f.way.getD at_ dFTx) frm)) at_ 8 (.b true) (yesT (canT (f.way.getD at_ dFTx) frm)) (by rw [hg];simp [yesT])
 have h3:=places_len3 (canT (f.way.getD at_ dFTx) frm).op
 rw [hc,List.set_set]
 simp only [canF]
 have hno:noF (setT f at_ (canT (f.way.getD at_ dFTx) frm)) at_=noF ⟨f.disk,f.way.set at_ (canT (f.way.getD at_ dFTx) frm)⟩ at_:=rfl
 generalize f.way.getD at_ dFTx=T at *
 refine ⟨by omega,by omega,p1,by omega,fun h=>?_,fun h=>⟨fun h2=>?_,fun h2=>?_⟩⟩
 ·have h:0<(lessP (placesL T.op) (putP T.can frm)).length:=by simp only [canT] at h;omega
  simp only [if_pos h,setT,and_self]
 ·have h:¬ 0<(lessP (placesL T.op) (putP T.can frm)).length:=by simp only [canT] at h;omega
  have h2:(addD f.disk ⟨2,T.tx,[],[]⟩ true).2=false:=by simpa only [Bool.not_eq_true',canT] using h2
  simp only [if_neg h,h2,Bool.false_eq_true,if_false,hno,and_self,true_and,and_true]
  exact ⟨p1,p2⟩
 ·have h:¬ 0<(lessP (placesL T.op) (putP T.can frm)).length:=by simp only [canT] at h;omega
  have h2:(addD f.disk ⟨2,T.tx,[],[]⟩ true).2=true:=by simpa only [Bool.not_eq_false',canT] using h2
  simp only [if_neg h,h2,if_true]
  repeat' (first | exact True.intro | with_reducible apply And.intro)
  all_goals first | omega | exact p1 | rfl | (refine ⟨(),?_⟩;simp [canT]) | simp
def spec_l6Can_c:Con Tryz.prog:=conP [.give,.lend,.lend] fun (b:Front×Nat×Int) h=>spec_l6Can_ok (b.1) (b.2.1) (b.2.2) h
theorem spec_FroFall_ok (f:Front) (keep:Int):FunOK Tryz.prog 207 2 [] [(0,kFrontS f),(1,kI keep)] (·=[(2,kFrontO (fallF f keep))]):=by
 refine fun_to (E:=⟨tab,ctOf [spec_FroOk_c,spec_l6Copy_c,spec_l2Of_c,spec_DiskFall_c],71,[],[(0,[1,2,4,12,70]),(1,[1,2,4,11,12,70]),(2,[4,12,70]),(3,[4,5,12,70]),(4,[4,5,6,12,70]),(5,[4,5,6,12,19,70]),(6,[4,5,6,12,70]),(7,[4,5,6,7,12,70]),(8,[4,5,6,7,8,12,70]),(9,[4,5,6,7,8,12,27,70]),(10,[4,5,6,7,8,12,70]),(11,[4,5,6,7,8,12,70]),(12,[4,5,6,12,61,70]),(13,[4,5,6,12,70]),(14,[4,12,70])],[(0,⟨List Note×Int×List FTx×Nat,fun x=>[(4,⟨.box,[.c (.ow 107 nilR),.c (.n .i64 ((0:Int))),.c (.ow 69 nilR)],[]⟩),(5,⟨.box,[.c (oNotes (x.1)),.c (.n .i64 (x.2.1)),.c (oFTxs (x.2.2.1))],[]⟩),(6,(k1 (.n .i64 (x.2.2.2:Int))))]⟩),(2,⟨List Note×Int×List FTx×Nat×Bool×Nat,fun x=>[(4,⟨.box,[.c (.ow 107 nilR),.c (.n .i64 ((0:Int))),.c (.ow 69 nilR)],[]⟩),(5,⟨.box,[.c (oNotes (x.1)),.c (.n .i64 (x.2.1)),.c (oFTxs (x.2.2.1))],[]⟩),(6,(k1 (.n .i64 (x.2.2.2.1:Int)))),(7,(k1 (.b (x.2.2.2.2.1)))),(8,(k1 (.n .i64 (x.2.2.2.2.2:Int))))]⟩)],[],[],[]⟩) tab_ok mixed Tryz.func207 rfl Tryz.ntmps207 (rvs:=[.cell 4 38]) Tryz.results207 rfl fun hl=>?_
 refine cast (show (let k_2:Prop:=∀ (k:Nat),True/\True;let k_1:Prop:=cnRs nilR=cnRs nilR/\i_0=i_0/\cnRs nilR=cnRs nilR;∃ (b:Front),(q_e f.disk.notes b.disk.notes/\f.disk.safe=b.disk.safe/\q_h f.way b.way)/\((!froB b)=true->cnRs nilR=t_f (fallF f keep).disk.notes/\i_0=(fallF f keep).disk.safe/\cnRs nilR=t_j (fallF f keep).way)/\((!froB b)=false->∃ (b:Disk×Int),((q_e f.disk.notes b.1.notes/\f.disk.safe=b.1.safe)/\keep=b.2)/\(∃ (pre:y_22->Prop),∃ (μ:y_22->Nat),∃ (x0:y_22),(k_1/\(q_f (fallD b.1 b.2).notes x0.1/\(fallD b.1 b.2).safe=x0.2.1/\cnRs nilR=t_j x0.2.2.1)/\i_0=zi x0.2.2.2)/\pre x0/\(∀ (x:y_22),pre x->(decide (zi x.2.2.2<=i_29)=true->∃ (pre_1:y_23->Prop),∃ (μ_1:y_23->Nat),∃ (x0:y_23),(k_1/\(q_f x.1 x0.1/\x.2.1=x0.2.1/\q_j x.2.2.1 x0.2.2.1)/\zi x.2.2.2=zi x0.2.2.2.1/\false=x0.2.2.2.2.1/\i_0=zi x0.2.2.2.2.2)/\pre_1 x0/\(∀ (x_1:y_23),let k_5:Prop:=(zi x_1.2.2.2.2.2).toNat<x_1.1.length;let k_4:Prop:=i_0<=zi x_1.2.2.2.2.2/\zi x_1.2.2.2.2.2<zi x_1.1.length;let k_3:Prop:=∃ (y:y_22),(k_1/\(q_f x_1.1 y.1/\x_1.2.1=y.2.1/\q_j x_1.2.2.1 y.2.2.1)/\wr_ ((zi x_1.2.2.2.1)+i_1)=zi y.2.2.2)/\pre y/\μ y<μ x;pre_1 x_1->(decide (zi x_1.2.2.2.2.2<zi x_1.1.length)=true->(x_1.2.2.2.2.1=false->k_4/\k_5/\(((g_Note x_1.1 x_1.2.2.2.2.2).tx==zi x_1.2.2.2.1)=true->k_4/\k_5/\(∃ (y:y_23),(k_1/\(q_f x_1.1 y.1/\x_1.2.1=y.2.1/\q_j x_1.2.2.1 y.2.2.1)/\zi x_1.2.2.2.1=zi y.2.2.2.1/\((g_Note x_1.1 x_1.2.2.2.2.2).kind==i_4)=y.2.2.2.2.1/\wr_ ((zi x_1.2.2.2.2.2)+i_1)=zi y.2.2.2.2.2)/\pre_1 y/\μ_1 y<μ_1 x_1))/\(((g_Note x_1.1 x_1.2.2.2.2.2).tx==zi x_1.2.2.2.1)=false->∃ (y:y_23),(k_1/\(q_f x_1.1 y.1/\x_1.2.1=y.2.1/\q_j x_1.2.2.1 y.2.2.1)/\zi x_1.2.2.2.1=zi y.2.2.2.1/\false=y.2.2.2.2.1/\wr_ ((zi x_1.2.2.2.2.2)+i_1)=zi y.2.2.2.2.2)/\pre_1 y/\μ_1 y<μ_1 x_1))/\(x_1.2.2.2.2.1=true->∃ (y:y_23),(k_1/\(q_f x_1.1 y.1/\x_1.2.1=y.2.1/\q_j x_1.2.2.1 y.2.2.1)/\zi x_1.2.2.2.1=zi y.2.2.2.1/\true=y.2.2.2.2.1/\wr_ ((zi x_1.2.2.2.2.2)+i_1)=zi y.2.2.2.2.2)/\pre_1 y/\μ_1 y<μ_1 x_1))/\(decide (zi x_1.2.2.2.2.2<zi x_1.1.length)=false->∃ (b:List Note×Int),(cnRs (frozenRs (typ dNote eNoteO x_1.1))=t_e b.1/\zi x_1.2.2.2.1=b.2)/\((ofN b.1 b.2==i_2)=true->((!x_1.2.2.2.2.1)=true->(x_1.2.2.1.length+n_1)*n_120<=n_140737488355328/\(∃ (y:y_22),(k_1/\(q_f x_1.1 y.1/\x_1.2.1=y.2.1/\cnRs (appR (typ dFTx eFTxO x_1.2.2.1) (raw [[cn_ (zi x_1.2.2.2.1),cn_ i_0,cn_ i_0,cn_ i_0,cn_ i_0,cn_ i_0,cn_ i_0,cn_ i_0,CV.b true,CV.ow n_3 nilR,CV.ow n_3 nilR]]))=t_j y.2.2.1)/\wr_ ((zi x_1.2.2.2.1)+i_1)=zi y.2.2.2)/\pre y/\μ y<μ x))/\((!x_1.2.2.2.2.1)=false->k_3))/\((ofN b.1 b.2==i_2)=false->k_3))))/\(decide (zi x.2.2.2<=i_29)=false->∃ (b:Front),(cnRs (frozenRs (typ dNote eNoteO x.1))=t_e b.disk.notes/\x.2.1=b.disk.safe/\cnRs (frozenRs (typ dFTx eFTxO x.2.2.1))=t_h b.way)/\smallF b/\(((∀ (k:Nat),True/\True/\k_2/\(∀ (k:Nat),True/\True/\k_2/\True)/\True)/\True/\(∀ (k:Nat),True/\True/\True/\True/\True/\True/\True/\True/\True/\k_2/\k_2/\True)/\True)/\True)/\q_f b.disk.notes (fallF f keep).disk.notes/\b.disk.safe=(fallF f keep).disk.safe/\q_j b.way (fallF f keep).way)))))=_ by kernel_rfl) ?_
 delta i_0 i_1 i_2 i_4 wr_ zi n_140737488355328 n_1 n_3 cn_ i_29 g_Note t_e q_e t_f q_f t_h q_h t_j q_j n_120 y_22 y_23
 simp only [zza,zzb,true_and,and_true,and_self,ne_eq,cI_app,cWrtO_app,cWrtS_app,cWrtO_1,cItemO_1,opr_ex,zcast,frz_nil,nil_map,Option.getD_none,Option.getD_some]
 refine ⟨fun h=>?_,fun h=>?_⟩
 ·simp at h;simp [fallF,h]
 simp at h
 obtain ⟨g1,g2,g3,g4⟩:=froB_parts h
 simp only [fallF,h,if_true]
 have hd:=fallD_ok g1 keep
 generalize fallD f.disk keep=D at *
 obtain ⟨d1,d2,_,_⟩:=diskB_small hd
 refine ⟨fun z=>z.1=D.notes/\z.2.1=D.safe/\z.2.2.2<=30/\z.2.2.1=fallW D.notes z.2.2.2,⟨rfl,rfl,Nat.zero_le _,rfl⟩,fun z=>30-z.2.2.2,fun a1 a2 a3 b hp=>?_⟩
 simp only at hp
 obtain ⟨rfl,rfl,h1,h2⟩:=hp
 have hl2:=fallW_len D.notes b
 rw [<- h2] at hl2
 have go:b<30->∀ v,v=(if lives D.notes (b:Int)=true then a3++[⟨(b:Int),dOpr,true,[],[]⟩] else a3)->∃ y:Nat,IntKind.i64.wrap ((b:Int)+1)=(y:Int)/\(D.notes=D.notes/\D.safe=D.safe/\y<=30/\v=fallW D.notes y)/\30-y<30-b:=fun hlt v hv =>
  ⟨b+1,wrapN (by omega),⟨rfl,rfl,by omega,by rw [fallW_succ,<- h2];exact hv⟩,by omega⟩
 refine ⟨fun hle=>?_,fun hgt=>?_⟩
 ·refine ⟨fun z=>z.1=D.notes/\z.2.1=D.safe/\z.2.2.1=a3/\z.2.2.2.1=b/\z.2.2.2.2.2<=D.notes.length/\z.2.2.2.2.1=(D.notes.take z.2.2.2.2.2).any (endP b),⟨rfl,rfl,rfl,rfl,Nat.zero_le _,rfl⟩,fun z=>D.notes.length-z.2.2.2.2.2,fun c1 c2 c3 c4 c5 j hq=>?_⟩
  simp only at hq
  obtain ⟨rfl,rfl,rfl,rfl,q1,q2⟩:=hq
  have hs:j<D.notes.length->(D.notes.take (j+1)).any (endP c4)=(c5||endP c4 (D.notes.getD j dNote)):=fun hj=>by
   rw [take_succ (d:=dNote) hj,List.any_append,<- q2];simp
  have go2:j<D.notes.length->∀ v,v=(c5||endP c4 (D.notes.getD j dNote))->∃ y:Nat,IntKind.i64.wrap ((j:Int)+1)=(y:Int)/\(D.notes=D.notes/\D.safe=D.safe/\c3=c3/\c4=c4/\y<=D.notes.length/\v=(D.notes.take y).any (endP c4))/\D.notes.length-y<D.notes.length-j:=fun hj v hv =>
   ⟨j+1,wrapN (by omega),⟨rfl,rfl,rfl,rfl,by omega,by rw [hs hj];exact hv⟩,by omega⟩
  refine ⟨fun hlt=>⟨fun e1=>⟨by omega,hlt,by omega,fun e2=>⟨by omega,hlt,by omega,go2 (by omega) _ ?_⟩,fun e2=>go2 (by omega) _ ?_⟩,fun e1=>go2 (by omega) _ ?_⟩,fun hge=>⟨fun e1=>⟨fun e2=>⟨by omega,c3++[⟨(c4:Int),dOpr,true,[],[]⟩],by simp [dOpr],go (by omega) _ ?_⟩,fun e2=>go (by omega) _ ?_⟩,fun e1=>go (by omega) _ ?_⟩⟩
  ·simp only [e1,endP,e2,beq_self_eq_true,Bool.true_and,Bool.false_or];rfl
  ·have:((D.notes.getD j dNote).tx==(c4:Int))=false:=beq_eq_false_iff_ne.2 e2
   simp only [e1,endP,this,Bool.false_and,Bool.or_self]
  ·simp only [e1,Bool.true_or]
  all_goals
   have hj:j=D.notes.length:=by omega
   rw [hj,List.take_length] at q2
  ·have e2:c5=false:=by simpa using e2
   have:lives D.notes (c4:Int)=true:=by simp only [lives,e1,<- q2,e2];rfl
   rw [if_pos this]<;>rfl
  ·have e2:c5=true:=by simpa using e2
   have:¬ lives D.notes (c4:Int)=true:=by simp only [lives,<- q2,e2];simp
   rw [if_neg this]
  ·have:¬ lives D.notes (c4:Int)=true:=by
    have:(ofN D.notes (c4:Int)==2)=false:=beq_eq_false_iff_ne.2 e1
    simp only [lives,this];simp
   rw [if_neg this]
 ·have:b=30:=by omega
  subst this
  refine ⟨⟨d1,by simp only;omega,fun t ht=>?_⟩,rfl,rfl,h2⟩
  simp only at ht
  rw [h2] at ht
  obtain ⟨i,_,_,rfl⟩:=fallW_mem ht
  exact ⟨by simp,by simp⟩
def spec_FroFall_c:Con Tryz.prog:=con0 [.lend,.lend] fun b:Front×Int=>spec_FroFall_ok (b.1) (b.2)
end Go.Proofs.AI
namespace Go.Proofs.AI
open Go.RowKit Go.Proofs
set_option linter.unusedVariables false
set_option linter.unusedSimpArgs false
set_option maxRecDepth 100000
def yesAt (f:Front) (k:Int):Bool:=(f.way.getD k.toNat dFTx).yes
def hearF (f:Front) (m:Msg):Front×List Msg×List FOut :=
 if m.kind=6/\0<=atF f.way m.tx/\yesAt f (atF f.way m.tx)=true then (knowF f (atF f.way m.tx).toNat m.frm,[],[])
 else if m.kind=4/\0<=atF f.way m.tx/\yesAt f (atF f.way m.tx)=false then canF f (atF f.way m.tx).toNat m.frm
 else if m.kind=5/\0<=atF f.way m.tx/\yesAt f (atF f.way m.tx)=false then noF f (atF f.way m.tx).toNat
 else if m.kind=4∨m.kind=7 then (f,whatF f m,[])
 else (f,[],[])
def giveF (f:Front) (tx:Int):Front×List Msg×List FOut :=
 if froB f=true then (if atF f.way tx<0∨yesAt f (atF f.way tx)=true then (f,[],[]) else noF f (atF f.way tx).toNat) else (⟨⟨[],0⟩,[]⟩,[],[])
theorem atF_lt {w:List FTx} {tx:Int} (h:0<=atF w tx):(atF w tx).toNat<w.length/\(w.getD (atF w tx).toNat dFTx).tx=tx:=by
 simp only [atF,idxOf] at h ⊢
 split at h
 ·rename_i ha
  rw [if_pos ha]
  have:=List.findIdx_lt_length_of_exists (p:=fun t:FTx=>t.tx==tx) (by obtain ⟨x,h1,h2⟩:=List.any_eq_true.1 ha;exact ⟨x,h1,h2⟩)
  refine ⟨by simpa using this,?_⟩
  rw [Int.toNat_natCast,getD_lt this]
  have:=List.findIdx_getElem (w:=this)
  simpa using this
 ·omega
def ris3 (l:List Int):Prop:=l.Pairwise (·<·)/\∀ x∈l,1<=x/\x<=3
theorem ris3_len {l:List Int} (h:ris3 l):l.length<=3:=by
 obtain ⟨h1,h2⟩:=h
 match l,h1,h2 with
 | [],_,_=>simp
 | [a],_,_=>simp
 | [a,b],_,_=>simp
 | [a,b,c],_,_=>simp
 | a::b::c::d::r,h1,h2 =>
  have ha:=h2 a (by simp)
  have hd:=h2 d (by simp)
  simp only [List.pairwise_cons,List.mem_cons,forall_eq_or_imp] at h1
  obtain ⟨⟨x1,_⟩,⟨x2,_⟩,⟨x3,_⟩,_⟩:=h1
  omega
theorem ris3_of {l:List Int} (h:risB l=true):ris3 l:=by
 simp only [risB,List.all_eq_true,List.mem_range] at h
 have step:∀ i,i+1<l.length->l.getD i 0<l.getD (i+1) 0:=fun i hi=>by
  have:=h (i+1) hi
  simp only [risP,Bool.and_eq_true,Bool.or_eq_true,beq_iff_eq,decide_eq_true_eq] at this
  rcases this.2 with h0 | h0
  ·omega
  ·simpa using h0
 have lt:∀ d i,i+d+1<l.length->l.getD i 0<l.getD (i+d+1) 0:=fun d=>by
  induction d with
  | zero=>intro i hi;exact step i hi
  | succ d ih=>intro i hi;have:=ih i (by omega);have:=step (i+d+1) (by omega);rw [show i+(d+1)+1=i+d+1+1 by omega];omega
 refine ⟨List.pairwise_iff_getElem.2 fun i j hi hj hij=>?_,fun x hx=>?_⟩
 ·have:=lt (j-i-1) i (by omega)
  rw [show i+(j-i-1)+1=j by omega,getD_lt hi,getD_lt hj] at this
  exact this
 ·obtain ⟨k,hk,rfl⟩:=List.getElem_of_mem hx
  have:=h k hk
  simp only [risP,Bool.and_eq_true,getD_lt hk] at this
  simpa [inR] using this.1
theorem ris_len {l:List Int} (h:risB l=true):l.length<=3:=ris3_len (ris3_of h)
def sendN (net:List Msg) (l:List Msg):List Msg:=l.foldl (fun n m=>if n.length<60 then n++[m] else n) net
def outsN (outs:List FOut) (l:List FOut):List FOut:=l.foldl (fun n m=>if n.length<=29 then n++[m] else n) outs
theorem sendN_len (l:List Msg):∀ net:List Msg,(sendN net l).length<=max 60 net.length:=by
 induction l with
 | nil=>intro net;simp [sendN];omega
 | cons m l ih =>
  intro net
  simp only [sendN,List.foldl_cons]
  split
  ·have:=ih (net++[m]);simp only [sendN,List.length_append,List.length_singleton] at this;omega
  ·have:=ih net;simp only [sendN] at this;omega
theorem outsN_len (l:List FOut):∀ net:List FOut,(outsN net l).length<=max 30 net.length:=by
 induction l with
 | nil=>intro net;simp [outsN];omega
 | cons m l ih =>
  intro net
  simp only [outsN,List.foldl_cons]
  split
  ·have:=ih (net++[m]);simp only [outsN,List.length_append,List.length_singleton] at this;omega
  ·have:=ih net;simp only [outsN] at this;omega
theorem froB_smallF {f:Front} (h:froB f=true):smallF f:=by
 obtain ⟨g1,g2,_,g4⟩:=froB_parts h
 refine ⟨(diskB_small g1).1,by omega,fun t ht=>?_⟩
 obtain ⟨k,hk,rfl⟩:=List.getElem_of_mem ht
 have:=g4 k hk
 simp only [wayP,Bool.and_eq_true,getD_lt hk] at this
 exact ⟨by have:=ris_len this.1.1.1.2;omega,by have:=ris_len this.1.1.2;omega⟩
theorem noF_small {f:Front} (h:smallF f) (k:Nat):smallF (noF f k).1:=by
 obtain ⟨h1,h2,h3⟩:=h
 refine ⟨h1,?_,fun t ht=>h3 t (List.mem_of_mem_eraseIdx ht)⟩
 simp only [noF,goneF,List.length_eraseIdx]
 split<;>omega
abbrev cKWldM (x:Wld):List SC:=[.c (sNotes x.front.disk.notes),.c (.n .i64 x.front.disk.safe),.c (mFTxs x.front.way),.c (mDisks x.disks),.c (oMsgs x.net),.c (oOps x.ops),.c (oFOuts x.outs)]
abbrev kWldM (x:Wld):Ky:=⟨.agg,cKWldM x,[]⟩
def newW:Wld:=⟨⟨⟨[],0⟩,[]⟩,[⟨[],0⟩,⟨[],0⟩,⟨[],0⟩],[],[],[]⟩
def smallW (w:Wld):Prop:=smallF w.front/\w.disks.length<=100/\(∀ d∈w.disks,smallD d)/\w.net.length<=1000/\w.ops.length<=1000/\w.outs.length<=1000
theorem spec_l6Hear_ok (f:Front) (m:Msg) (hpre:f.way.length<=1000/\∀ t∈f.way,smallT t):FunOK Tryz.prog 40 2 [] [(0,kFrontM f),(1,kMsg m)] (·=[(2,⟨.tup [(true,3),(false,1),(false,1)],[.c (sNotes (hearF f m).1.disk.notes),.c (.n .i64 (hearF f m).1.disk.safe),.c (mFTxs (hearF f m).1.way),.c (oMsgs (hearF f m).2.1),.c (oFOuts (hearF f m).2.2)],[]⟩)]):=by
 refine fun_to (E:=⟨tab,ctOf [spec_l6At_c,spec_l6Know_c,spec_l6Can_c,spec_l6No_c,spec_l6What_c],100,[],[(0,[2,3,4,32,33,34,56,57,58,59,79,80,81,82,92,95,96,97,98,99]),(1,[2,3,4,7,32,33,34,56,57,58,59,79,80,81,82,92,95,96,97,98,99]),(2,[2,3,4,7,12,32,33,34,56,57,58,59,79,80,81,82,92,95,96,97,98,99]),(3,[2,4,5,6,32,33,34,56,57,58,59,79,80,81,82,92,95,96,97,98,99]),(4,[2,3,4,7,32,33,34,35,56,57,58,59,79,80,81,82,92,95,96,97,98,99]),(5,[2,4,5,6,32,33,34,56,57,58,59,79,80,81,82,92,95,96,97,98,99]),(6,[2,3,4,7,32,33,34,56,57,58,59,60,79,80,81,82,92,95,96,97,98,99]),(7,[2,4,5,6,32,33,34,56,57,58,59,79,80,81,82,92,95,96,97,98,99]),(8,[2,3,4,32,33,34,56,57,58,59,79,80,81,82,83,92,95,96,97,98,99]),(9,[2,4,5,6,32,33,34,56,57,58,59,79,80,81,82,92,95,96,97,98,99]),(10,[2,4,5,6,32,33,34,56,57,58,59,79,80,81,82,92,95,96,97,98,99])],[],[],[(2,⟨Int×Bool,fun x=>[(2,⟨.box,[.c (.sh 107 (typ dNote eNoteS f.disk.notes)),.c (.n .i64 f.disk.safe),.c (.ow 69 (typ dFTx eFTxS f.way))],[]⟩),(3,⟨.box,[.c (.n .i64 m.kind),.c (.n .i64 m.to),.c (.n .i64 m.frm),.c (.n .i64 m.tx),.c (.n .i64 m.op.kind),.c (.n .i64 m.op.who),.c (.n .i64 m.op.inn),.c (.n .i64 m.op.code),.c (.n .i64 m.op.sec),.c (.n .i64 m.op.fam),.c (.n .i64 m.op.gen)],[]⟩),(4,⟨.box,[.c (.ow 107 nilR),.c (.n .i64 ((0:Int))),.c (.ow 69 nilR)],[]⟩),(7,(k1 (.n .i64 (x.1)))),(12,(k1 (.b (x.2))))]⟩),(4,⟨Int×Bool,fun x=>[(2,⟨.box,[.c (.sh 107 (typ dNote eNoteS f.disk.notes)),.c (.n .i64 f.disk.safe),.c (.ow 69 (typ dFTx eFTxS f.way))],[]⟩),(3,⟨.box,[.c (.n .i64 m.kind),.c (.n .i64 m.to),.c (.n .i64 m.frm),.c (.n .i64 m.tx),.c (.n .i64 m.op.kind),.c (.n .i64 m.op.who),.c (.n .i64 m.op.inn),.c (.n .i64 m.op.code),.c (.n .i64 m.op.sec),.c (.n .i64 m.op.fam),.c (.n .i64 m.op.gen)],[]⟩),(4,⟨.box,[.c (.ow 107 nilR),.c (.n .i64 ((0:Int))),.c (.ow 69 nilR)],[]⟩),(7,(k1 (.n .i64 (x.1)))),(35,(k1 (.b (x.2))))]⟩),(6,⟨Int×Bool,fun x=>[(2,⟨.box,[.c (.sh 107 (typ dNote eNoteS f.disk.notes)),.c (.n .i64 f.disk.safe),.c (.ow 69 (typ dFTx eFTxS f.way))],[]⟩),(3,⟨.box,[.c (.n .i64 m.kind),.c (.n .i64 m.to),.c (.n .i64 m.frm),.c (.n .i64 m.tx),.c (.n .i64 m.op.kind),.c (.n .i64 m.op.who),.c (.n .i64 m.op.inn),.c (.n .i64 m.op.code),.c (.n .i64 m.op.sec),.c (.n .i64 m.op.fam),.c (.n .i64 m.op.gen)],[]⟩),(4,⟨.box,[.c (.ow 107 nilR),.c (.n .i64 ((0:Int))),.c (.ow 69 nilR)],[]⟩),(7,(k1 (.n .i64 (x.1)))),(60,(k1 (.b (x.2))))]⟩),(8,⟨Bool,fun x=>[(2,⟨.box,[.c (.sh 107 (typ dNote eNoteS f.disk.notes)),.c (.n .i64 f.disk.safe),.c (.ow 69 (typ dFTx eFTxS f.way))],[]⟩),(3,⟨.box,[.c (.n .i64 m.kind),.c (.n .i64 m.to),.c (.n .i64 m.frm),.c (.n .i64 m.tx),.c (.n .i64 m.op.kind),.c (.n .i64 m.op.who),.c (.n .i64 m.op.inn),.c (.n .i64 m.op.code),.c (.n .i64 m.op.sec),.c (.n .i64 m.op.fam),.c (.n .i64 m.op.gen)],[]⟩),(4,⟨.box,[.c (.ow 107 nilR),.c (.n .i64 ((0:Int))),.c (.ow 69 nilR)],[]⟩),(83,(k1 (.b (x))))]⟩)],[]⟩) tab_ok mixed Tryz.func40 rfl Tryz.ntmps40 (rvs:=[.cell 4 38,.tmp 5,.tmp 6]) Tryz.results40 rfl fun hl=>?_
 refine cast (show (let k_7:Prop:=cnRs (raw [])=t_k (hearF f m).2.2;let k_6:Prop:=f.disk.safe=(hearF f m).1.disk.safe;let k_5:Prop:=q_e f.disk.notes (hearF f m).1.disk.notes;let k_4:Prop:=cnRs nilR=cnRs nilR/\i_0=i_0/\cnRs nilR=cnRs nilR;let k_3:Prop:=cnRs (raw [])=t_g (hearF f m).2.1/\k_7;let k_2:Prop:=q_e f.disk.notes f.disk.notes/\f.disk.safe=f.disk.safe/\q_h f.way f.way;let k_1:Prop:=m.kind=m.kind/\m.to=m.to/\m.frm=m.frm/\m.tx=m.tx/\m.op.kind=m.op.kind/\m.op.who=m.op.who/\m.op.inn=m.op.inn/\m.op.code=m.op.code/\m.op.sec=m.op.sec/\m.op.fam=m.op.fam/\m.op.gen=m.op.gen;∃ (b:Front×Int),((q_e f.disk.notes b.1.disk.notes/\f.disk.safe=b.1.disk.safe/\cnRs (frozenRs (typ dFTx eFTxS f.way))=t_h b.1.way)/\m.tx=b.2)/\(∃ (post:Int×Bool->Prop),let k_8:Prop:=∃ (x:Int×Bool),(k_2/\k_1/\k_4/\atF b.1.way b.2=x.1/\false=x.2)/\post x;(((m.kind==i_6)=true->(decide (atF b.1.way b.2≥i_0)=true->(i_0<=atF b.1.way b.2/\atF b.1.way b.2<zi f.way.length)/\(atF b.1.way b.2).toNat<f.way.length/\(∃ (x:Int×Bool),(k_2/\k_1/\k_4/\atF b.1.way b.2=x.1/\(f.way.getD (atF b.1.way b.2).toNat dFTx).yes=x.2)/\post x))/\(decide (atF b.1.way b.2≥i_0)=false->k_8))/\((m.kind==i_6)=false->k_8))/\(∀ (x:Int×Bool),post x->(x.2=true->∃ (b:Front×Nat×Int),((q_e f.disk.notes b.1.disk.notes/\f.disk.safe=b.1.disk.safe/\q_h f.way b.1.way)/\x.1=zi b.2.1/\m.frm=b.2.2)/\(b.2.1<b.1.way.length/\b.1.way.length<=n_1000/\(b.1.way.getD b.2.1 dFTx).know.length<=n_1000)/\q_e (knowF b.1 b.2.1 b.2.2).disk.notes (hearF f m).1.disk.notes/\(knowF b.1 b.2.1 b.2.2).disk.safe=(hearF f m).1.disk.safe/\q_h (knowF b.1 b.2.1 b.2.2).way (hearF f m).1.way/\k_3)/\(x.2=false->∃ (post:Int×Bool->Prop),let k_9:Prop:=∃ (x_1:Int×Bool),(k_2/\k_1/\k_4/\x.1=x_1.1/\false=x_1.2)/\post x_1;(((m.kind==i_4)=true->(decide (x.1≥i_0)=true->(i_0<=x.1/\x.1<zi f.way.length)/\x.1.toNat<f.way.length/\(∃ (x_1:Int×Bool),(k_2/\k_1/\k_4/\x.1=x_1.1/\(!(f.way.getD x.1.toNat dFTx).yes)=x_1.2)/\post x_1))/\(decide (x.1≥i_0)=false->k_9))/\((m.kind==i_4)=false->k_9))/\(∀ (x:Int×Bool),post x->(x.2=true->∃ (b:Front×Nat×Int),((q_e f.disk.notes b.1.disk.notes/\f.disk.safe=b.1.disk.safe/\q_h f.way b.1.way)/\x.1=zi b.2.1/\m.frm=b.2.2)/\(b.2.1<b.1.way.length/\b.1.way.length<=n_1000/\(b.1.way.getD b.2.1 dFTx).can.length<=n_1000)/\q_e (canF b.1 b.2.1 b.2.2).1.disk.notes (hearF f m).1.disk.notes/\(canF b.1 b.2.1 b.2.2).1.disk.safe=(hearF f m).1.disk.safe/\q_h (canF b.1 b.2.1 b.2.2).1.way (hearF f m).1.way/\q_g (canF b.1 b.2.1 b.2.2).2.1 (hearF f m).2.1/\q_k (canF b.1 b.2.1 b.2.2).2.2 (hearF f m).2.2)/\(x.2=false->∃ (post:Int×Bool->Prop),let k_10:Prop:=∃ (x_1:Int×Bool),(k_2/\k_1/\k_4/\x.1=x_1.1/\false=x_1.2)/\post x_1;(((m.kind==i_5)=true->(decide (x.1≥i_0)=true->(i_0<=x.1/\x.1<zi f.way.length)/\x.1.toNat<f.way.length/\(∃ (x_1:Int×Bool),(k_2/\k_1/\k_4/\x.1=x_1.1/\(!(f.way.getD x.1.toNat dFTx).yes)=x_1.2)/\post x_1))/\(decide (x.1≥i_0)=false->k_10))/\((m.kind==i_5)=false->k_10))/\(∀ (x:Int×Bool),post x->(x.2=true->∃ (b:Front×Nat),((q_e f.disk.notes b.1.disk.notes/\f.disk.safe=b.1.disk.safe/\q_h f.way b.1.way)/\x.1=zi b.2)/\(b.2<b.1.way.length/\b.1.way.length<=n_1000)/\q_e (noF b.1 b.2).1.disk.notes (hearF f m).1.disk.notes/\(noF b.1 b.2).1.disk.safe=(hearF f m).1.disk.safe/\q_h (noF b.1 b.2).1.way (hearF f m).1.way/\q_g (noF b.1 b.2).2.1 (hearF f m).2.1/\q_k (noF b.1 b.2).2.2 (hearF f m).2.2)/\(x.2=false->∃ (post:Bool->Prop),(((m.kind==i_4)=false->∃ (x:Bool),(k_2/\k_1/\k_4/\(m.kind==i_7)=x)/\post x)/\((m.kind==i_4)=true->∃ (x:Bool),(k_2/\k_1/\k_4/\true=x)/\post x))/\(∀ (x:Bool),post x->(x=true->∃ (b:Front×Msg),((q_e f.disk.notes b.1.disk.notes/\f.disk.safe=b.1.disk.safe/\cnRs (frozenRs (typ dFTx eFTxS f.way))=t_h b.1.way)/\m.kind=b.2.kind/\m.to=b.2.to/\m.frm=b.2.frm/\m.tx=b.2.tx/\m.op.kind=b.2.op.kind/\m.op.who=b.2.op.who/\m.op.inn=b.2.op.inn/\m.op.code=b.2.op.code/\m.op.sec=b.2.op.sec/\m.op.fam=b.2.op.fam/\m.op.gen=b.2.op.gen)/\(((∀ (k:Nat),True/\True/\True/\True/\True/\True/\True/\True/\True/\True/\True/\True)/\True)/\True)/\k_5/\k_6/\q_h f.way (hearF f m).1.way/\q_g (whatF b.1 b.2) (hearF f m).2.1/\k_7)/\(x=false->k_5/\k_6/\q_h f.way (hearF f m).1.way/\k_3))))))))))=_ by kernel_rfl) ?_
 delta i_0 i_5 i_4 zi n_1000 i_7 i_6 t_e q_e t_g q_g t_h q_h t_k q_k
 obtain ⟨p1,p2⟩:=hpre
 simp only [zza,zzb,true_and,and_true,and_self,ne_eq,cI_app,cWrtO_app,cWrtS_app,cWrtO_1,cItemO_1,opr_ex,zcast,frz_nil,nil_map,Option.getD_none,Option.getD_some]
 have hat:=fun h=>atF_lt (w:=f.way) (tx:=m.tx) h
 have hT:∀ k,k<f.way.length->smallT (f.way.getD k dFTx):=fun k hk=>p2 _ (by rw [getD_lt hk];exact List.getElem_mem hk)
 generalize hA:atF f.way m.tx=A at *
 have C1:∀ {p q:Prop} {b:Bool},p->q->(b=true↔p/\q/\b=true):=fun hp hq=>⟨fun h=>⟨hp,hq,h⟩,fun h=>h.2.2⟩
 refine ⟨fun z=>z.1=A/\(z.2=true↔(m.kind=6/\0<=A/\yesAt f A=true)),fun h1=>⟨fun h2=>⟨h2,by have:=(hat h2).1;omega,(hat h2).1,rfl,C1 h1 h2⟩,fun h2=>⟨rfl,by simp only [Bool.false_eq_true,false_iff];exact fun h=>h2 h.2.1⟩⟩,fun h1=>⟨rfl,by simp only [Bool.false_eq_true,false_iff];exact fun h=>h1 h.1⟩,fun z b hz=>?_⟩
 simp only at hz
 obtain ⟨rfl,hb⟩:=hz
 refine ⟨fun h=>?_,fun h=>?_⟩
 ·have hc:=hb.1 h
  have hl:=(hat hc.2.1).1
  simp only [hearF,hA,if_pos hc]
  exact ⟨z.toNat,by omega,hl,p1,(hT _ hl).2,by simp only [and_self]⟩
 have hc6:¬ (m.kind=6/\0<=z/\yesAt f z=true):=fun hc=>by rw [hb.2 hc] at h;cases h
 refine ⟨fun y=>y.1=z/\(y.2=true↔(m.kind=4/\0<=z/\yesAt f z=false)),fun h1=>⟨fun h2=>⟨h2,by have:=(hat h2).1;omega,(hat h2).1,rfl,?_⟩,fun h2=>⟨rfl,by simp only [Bool.false_eq_true,false_iff];exact fun h=>h2 h.2.1⟩⟩,fun h1=>⟨rfl,by simp only [Bool.false_eq_true,false_iff];exact fun h=>h1 h.1⟩,fun y c hy=>?_⟩
 ·show (!yesAt f z)=true↔_
  rw [Bool.not_eq_true'];exact ⟨fun h=>⟨h1,h2,h⟩,fun h=>h.2.2⟩
 simp only at hy
 obtain ⟨rfl,hc⟩:=hy
 refine ⟨fun h=>?_,fun h=>?_⟩
 ·have hcc:=hc.1 h
  have hl:=(hat hcc.2.1).1
  simp only [hearF,hA,if_neg hc6,if_pos hcc]
  exact ⟨y.toNat,by omega,hl,p1,(hT _ hl).1,by simp only [and_self]⟩
 have hc4:¬ (m.kind=4/\0<=y/\yesAt f y=false):=fun hcc=>by rw [hc.2 hcc] at h;cases h
 refine ⟨fun x=>x.1=y/\(x.2=true↔(m.kind=5/\0<=y/\yesAt f y=false)),fun h1=>⟨fun h2=>⟨h2,by have:=(hat h2).1;omega,(hat h2).1,rfl,?_⟩,fun h2=>⟨rfl,by simp only [Bool.false_eq_true,false_iff];exact fun h=>h2 h.2.1⟩⟩,fun h1=>⟨rfl,by simp only [Bool.false_eq_true,false_iff];exact fun h=>h1 h.1⟩,fun x d hx=>?_⟩
 ·show (!yesAt f y)=true↔_
  rw [Bool.not_eq_true'];exact ⟨fun h=>⟨h1,h2,h⟩,fun h=>h.2.2⟩
 simp only at hx
 obtain ⟨rfl,hd⟩:=hx
 refine ⟨fun h=>?_,fun h=>?_⟩
 ·have hcc:=hd.1 h
  have hl:=(hat hcc.2.1).1
  simp only [hearF,hA,if_neg hc6,if_neg hc4,if_pos hcc]
  exact ⟨x.toNat,by omega,hl,p1,rfl,rfl,rfl,rfl,rfl⟩
 have hc5:¬ (m.kind=5/\0<=x/\yesAt f x=false):=fun hcc=>by rw [hd.2 hcc] at h;cases h
 simp only [hearF,hA,if_neg hc6,if_neg hc4,if_neg hc5]
 refine ⟨fun q=>(q=true↔(m.kind=4∨m.kind=7)),fun h1=>by simp [h1],fun h1=>by simp [h1],fun q hq=>⟨fun h2=>?_,fun h2=>?_⟩⟩
 ·simp only [if_pos (hq.1 h2),and_self]
 ·have:¬ (m.kind=4∨m.kind=7):=fun h3=>by rw [hq.2 h3] at h2;cases h2
  simp only [if_neg this,and_self]
def spec_l6Hear_c:Con Tryz.prog:=⟨40,2,[.give,.lend],[],Front×Msg,some fun b=>b.1.way.length<=1000/\∀ t∈b.1.way,smallT t,fun b=>[(0,kFrontM b.1),(1,kMsg b.2)],fun b=>[(2,⟨.tup [(true,3),(false,1),(false,1)],[.c (sNotes (hearF b.1 b.2).1.disk.notes),.c (.n .i64 (hearF b.1 b.2).1.disk.safe),.c (mFTxs (hearF b.1 b.2).1.way),.c (oMsgs (hearF b.1 b.2).2.1),.c (oFOuts (hearF b.1 b.2).2.2)],[]⟩)],[],fun b h=>spec_l6Hear_ok (b.1) (b.2) h⟩
theorem spec_FroGive_ok (f:Front) (tx:Int):FunOK Tryz.prog 178 2 [] [(0,kFrontS f),(1,kI tx)] (·=[(2,⟨.tup [(true,3),(false,1),(false,1)],[.c (oNotes (giveF f tx).1.disk.notes),.c (.n .i64 (giveF f tx).1.disk.safe),.c (oFTxs (giveF f tx).1.way),.c (oMsgs (giveF f tx).2.1),.c (oFOuts (giveF f tx).2.2)],[]⟩)]):=by
 refine fun_to (E:=⟨tab,ctOf [spec_FroOk_c,spec_l6Copy_c,spec_l6At_c,spec_l6No_c],47,[],[(0,[1,2,4,7,10,11,15,16,17,33,34,35,36,39,41,42,44,45,46]),(1,[1,2,4,7,10,11,14,15,16,17,33,34,35,36,39,41,42,44,45,46]),(2,[4,5,6,7,10,11,15,16,17,33,34,35,36,39,41,42,44,45,46]),(3,[1,4,7,10,11,15,16,17,33,34,35,36,39,41,42,44,45,46]),(4,[4,7,8,10,11,15,16,17,33,34,35,36,39,41,42,44,45,46]),(5,[4,7,8,10,11,15,16,17,32,33,34,35,36,39,41,42,44,45,46]),(6,[4,5,6,7,10,11,15,16,17,33,34,35,36,39,41,42,44,45,46]),(7,[4,7,9,10,11,15,16,17,33,34,35,36,39,41,42,44]),(8,[4,5,6,7,10,11,15,16,17,33,34,35,36,39,41,42,44,45,46])],[],[(7,[(0,[7]),(2000000,[4])]),(8,[(1000002,[]),(1000003,[])])],[(5,⟨Int×Bool,fun x=>[(4,⟨.box,[.c (.ow 107 nilR),.c (.n .i64 ((0:Int))),.c (.ow 69 nilR)],[]⟩),(7,⟨.box,[.c (.ow 107 (typ dNote eNoteO f.disk.notes)),.c (.n .i64 f.disk.safe),.c (.ow 69 (typ dFTx eFTxO f.way))],[]⟩),(8,(k1 (.n .i64 (x.1)))),(32,(k1 (.b (x.2))))]⟩)],[]⟩) tab_ok mixed Tryz.func178 rfl Tryz.ntmps178 (rvs:=[.cell 4 38,.tmp 5,.tmp 6]) Tryz.results178 rfl fun hl=>?_
 refine cast (show (let k_3:Prop:=∀ (k:Nat),True/\True;let k_2:Prop:=cnRs nilR=cnRs nilR/\i_0=i_0/\cnRs nilR=cnRs nilR;let k_1:Prop:=cnRs (raw [])=t_g (giveF f tx).2.1/\cnRs (raw [])=t_k (giveF f tx).2.2;∃ (b:Front),(q_e f.disk.notes b.disk.notes/\f.disk.safe=b.disk.safe/\q_h f.way b.way)/\((!froB b)=true->cnRs nilR=t_f (giveF f tx).1.disk.notes/\i_0=(giveF f tx).1.disk.safe/\cnRs nilR=t_j (giveF f tx).1.way/\k_1)/\((!froB b)=false->∃ (b:Front),let k_4:Prop:=q_f b.disk.notes f.disk.notes/\b.disk.safe=f.disk.safe/\q_j b.way f.way;(q_e f.disk.notes b.disk.notes/\f.disk.safe=b.disk.safe/\q_h f.way b.way)/\smallF b/\(∃ (b_1:Front×Int),((cnRs (frozenRs (typ dNote eNoteO b.disk.notes))=t_e b_1.1.disk.notes/\b.disk.safe=b_1.1.disk.safe/\cnRs (frozenRs (typ dFTx eFTxO b.way))=t_h b_1.1.way)/\tx=b_1.2)/\(∃ (post:Int×Bool->Prop),((decide (atF b_1.1.way b_1.2<i_0)=false->(i_0<=atF b_1.1.way b_1.2/\atF b_1.1.way b_1.2<zi b.way.length)/\(atF b_1.1.way b_1.2).toNat<b.way.length/\(∃ (x:Int×Bool),(k_2/\k_4/\atF b_1.1.way b_1.2=x.1/\(b.way.getD (atF b_1.1.way b_1.2).toNat dFTx).yes=x.2)/\post x))/\(decide (atF b_1.1.way b_1.2<i_0)=true->∃ (x:Int×Bool),(k_2/\k_4/\atF b_1.1.way b_1.2=x.1/\true=x.2)/\post x))/\(∀ (x:Int×Bool),post x->(x.2=true->q_f f.disk.notes (giveF f tx).1.disk.notes/\f.disk.safe=(giveF f tx).1.disk.safe/\q_j f.way (giveF f tx).1.way/\k_1)/\(x.2=false->∃ (b:Front×Nat),((cnRs (frozenRs (typ dNote eNoteO f.disk.notes))=t_e b.1.disk.notes/\f.disk.safe=b.1.disk.safe/\cnRs (frozenRs (typ dFTx eFTxO f.way))=t_h b.1.way)/\x.1=zi b.2)/\(b.2<b.1.way.length/\b.1.way.length<=n_1000)/\(∃ (b_2:Front),(q_e (noF b.1 b.2).1.disk.notes b_2.disk.notes/\(noF b.1 b.2).1.disk.safe=b_2.disk.safe/\cnRs (frozenRs (typ dFTx eFTxS (noF b.1 b.2).1.way))=t_h b_2.way)/\smallF b_2/\(((∀ (k:Nat),True/\True/\k_3/\(∀ (k:Nat),True/\True/\k_3/\True)/\True)/\True/\(∀ (k:Nat),True/\True/\True/\True/\True/\True/\True/\True/\True/\k_3/\k_3/\True)/\True)/\True)/\q_f b_2.disk.notes (giveF f tx).1.disk.notes/\b_2.disk.safe=(giveF f tx).1.disk.safe/\q_j b_2.way (giveF f tx).1.way/\q_g (noF b.1 b.2).2.1 (giveF f tx).2.1/\q_k (noF b.1 b.2).2.2 (giveF f tx).2.2)))))))=_ by kernel_rfl) ?_
 delta i_0 zi n_1000 t_e q_e t_f q_f t_g q_g t_h q_h t_j q_j t_k q_k
 simp only [zza,zzb,true_and,and_true,and_self,ne_eq,cI_app,cWrtO_app,cWrtS_app,cWrtO_1,cItemO_1,opr_ex,zcast,frz_nil,nil_map,Option.getD_none,Option.getD_some]
 refine ⟨fun h=>?_,fun h=>?_⟩
 ·simp at h;simp [giveF,h]
 simp at h
 have hs:=froB_smallF h
 have hat:=fun h=>atF_lt (w:=f.way) (tx:=tx) h
 simp only [giveF,h,if_true]
 generalize atF f.way tx=A at *
 refine ⟨hs,fun z=>z.1=A/\(z.2=true↔(A<0∨yesAt f A=true)),fun h2=>⟨by omega,by have:=(hat (by omega)).1;omega,(hat (by omega)).1,rfl,?_⟩,fun h2=>⟨rfl,by simp [h2]⟩,fun z b hz=>?_⟩
 ·show yesAt f A=true↔_
  exact ⟨fun h=>.inr h,fun h=>h.resolve_left h2⟩
 simp only at hz
 obtain ⟨rfl,hb⟩:=hz
 refine ⟨fun h=>?_,fun h=>?_⟩
 ·simp only [if_pos (hb.1 h),and_self]
 ·have hn:¬ (z<0∨yesAt f z=true):=fun h3=>by rw [hb.2 h3] at h;cases h
  have hl:=(hat (by omega)).1
  simp only [if_neg hn]
  exact ⟨z.toNat,by omega,hl,hs.2.1,noF_small hs _,rfl,rfl,rfl,rfl,rfl⟩
def spec_FroGive_c:Con Tryz.prog:=con0 [.lend,.lend] fun b:Front×Int=>spec_FroGive_ok (b.1) (b.2)
theorem spec_l7Send_ok (w:Wld) (l:List Msg) (hpre:w.net.length<=1000):FunOK Tryz.prog 180 2 [] [(0,kWldM w),(1,k1 (sMsgs l))] (·=[(2,kWldM ⟨w.front,w.disks,sendN w.net l,w.ops,w.outs⟩)]):=by
 refine fun_to (E:=⟨tab,ctOf [],26,[],[(0,[1,2,4,25]),(1,[1,2,4,5,25]),(2,[1,2,4,5,9,25]),(3,[1,2,4,5,25]),(4,[1,2,4,5,15,25]),(5,[1,2,4,5,25]),(6,[2,4,25])],[(0,⟨List Msg×Nat,fun x=>[(1,(k1 (.sh 46 (typ dMsg eMsg l)))),(2,⟨.box,[.c (.sh 107 (typ dNote eNoteS w.front.disk.notes)),.c (.n .i64 w.front.disk.safe),.c (.ow 69 (typ dFTx eFTxS w.front.way)),.c (.ow 35 (typ dDisk eDiskS w.disks)),.c (oMsgs (x.1)),.c (.ow 44 (typ dOpr eOpr w.ops)),.c (.ow 74 (typ dFOut eFOut w.outs))],[]⟩),(4,⟨.box,[.c (.ow 107 nilR),.c (.n .i64 ((0:Int))),.c (.ow 69 nilR),.c (.ow 35 nilR),.c (.ow 46 nilR),.c (.ow 44 nilR),.c (.ow 74 nilR)],[]⟩),(5,(k1 (.n .i64 (x.2:Int))))]⟩)],[],[],[]⟩) tab_ok mixed Tryz.func180 rfl Tryz.ntmps180 (rvs:=[.cell 4 141]) Tryz.results180 rfl fun hl=>?_
 refine cast (show (let k_5:Prop:=q_h w.front.way w.front.way;let k_4:Prop:=q_m w.ops w.ops/\q_k w.outs w.outs;let k_3:Prop:=w.front.disk.safe=w.front.disk.safe;let k_2:Prop:=q_e w.front.disk.notes w.front.disk.notes;let k_1:Prop:=cnRs nilR=cnRs nilR/\i_0=i_0/\cnRs nilR=cnRs nilR/\cnRs nilR=cnRs nilR/\cnRs nilR=cnRs nilR/\cnRs nilR=cnRs nilR/\cnRs nilR=cnRs nilR;∃ (pre:List Msg×Nat->Prop),∃ (μ:List Msg×Nat->Nat),∃ (x0:List Msg×Nat),(q_g l l/\(k_2/\k_3/\k_5/\q_l w.disks w.disks/\q_g w.net x0.1/\k_4)/\k_1/\i_0=zi x0.2)/\pre x0/\(∀ (x:List Msg×Nat),pre x->(decide (zi x.2<zi l.length)=true->(decide (zi x.1.length<i_60)=true->(i_0<=zi x.2/\zi x.2<zi l.length)/\(x.1.length+n_1)*n_88<=n_140737488355328/\(∃ (y:List Msg×Nat),(q_g l l/\(k_2/\k_3/\k_5/\q_l w.disks w.disks/\cnRs (appR (typ dMsg eMsg x.1) (raw [[cn_ (g_Msg l x.2).kind,cn_ (g_Msg l x.2).to,cn_ (g_Msg l x.2).frm,cn_ (g_Msg l x.2).tx,cn_ (g_Msg l x.2).op.kind,cn_ (g_Msg l x.2).op.who,cn_ (g_Msg l x.2).op.inn,cn_ (g_Msg l x.2).op.code,cn_ (g_Msg l x.2).op.sec,cn_ (g_Msg l x.2).op.fam,cn_ (g_Msg l x.2).op.gen]]))=t_g y.1/\k_4)/\k_1/\wr_ ((zi x.2)+i_1)=zi y.2)/\pre y/\μ y<μ x))/\(decide (zi x.1.length<i_60)=false->∃ (y:List Msg×Nat),(q_g l l/\(k_2/\k_3/\k_5/\q_l w.disks w.disks/\q_g x.1 y.1/\k_4)/\k_1/\wr_ ((zi x.2)+i_1)=zi y.2)/\pre y/\μ y<μ x))/\(decide (zi x.2<zi l.length)=false->k_2/\k_3/\k_5/\q_l w.disks w.disks/\q_g x.1 (sendN w.net l)/\k_4)))=_ by kernel_rfl) ?_
 delta i_0 i_1 wr_ zi n_140737488355328 n_1 cn_ t_e q_e t_g q_g n_88 t_h q_h t_k q_k g_Msg t_l t_m q_l q_m i_60
 have hx:l.length<=9223372036854775807:=hl.2.1 (.c (sMsgs l)) (by simp)
 simp only [zza,zzb,true_and,and_true,and_self,ne_eq,cI_app,cWrtO_app,cWrtS_app,cWrtO_1,cItemO_1,opr_ex,zcast,frz_nil,nil_map,Option.getD_none,Option.getD_some]
 refine ⟨fun x=>x.2<=l.length/\x.1=sendN w.net (l.take x.2),⟨Nat.zero_le _,rfl⟩,fun x=>l.length-x.2,fun a i hp=>?_⟩
 obtain ⟨h1,h2⟩:=hp
 simp only at h1 h2
 have hl2:=sendN_len (l.take i) w.net
 rw [<- h2] at hl2
 have go:i<l.length->∀ v,v=(if a.length<60 then a++[l.getD i dMsg] else a)->∃ y:Nat,IntKind.i64.wrap ((i:Int)+1)=(y:Int)/\(y<=l.length/\v=sendN w.net (l.take y))/\l.length-y<l.length-i:=fun hlt v hv =>
  ⟨i+1,wrapN (by omega),⟨by omega,by rw [hv,h2];simp only [sendN];rw [fold_succ (d:=dMsg) hlt]<;>rfl⟩,by omega⟩
 refine ⟨fun hlt=>⟨fun e=>⟨by omega,hlt,by omega,a++[l.getD i dMsg],by simp,go (by omega) _ (by rw [if_pos (by omega)]<;>rfl)⟩,fun e=>go (by omega) _ (by rw [if_neg (by omega)])⟩,fun hge=>?_⟩
 have:i=l.length:=by omega
 rw [h2,this,List.take_length]
def spec_l7Send_c:Con Tryz.prog:=conP [.give,.lend] fun (b:Wld×List Msg) h=>spec_l7Send_ok (b.1) (b.2) h
theorem spec_l7Outs_ok (w:Wld) (l:List FOut) (hpre:w.outs.length<=1000):FunOK Tryz.prog 179 2 [] [(0,kWldM w),(1,k1 (sFOuts l))] (·=[(2,kWldM ⟨w.front,w.disks,w.net,w.ops,outsN w.outs l⟩)]):=by
 refine fun_to (E:=⟨tab,ctOf [],26,[],[(0,[1,2,4,25]),(1,[1,2,4,5,25]),(2,[1,2,4,5,9,25]),(3,[1,2,4,5,25]),(4,[1,2,4,5,15,25]),(5,[1,2,4,5,25]),(6,[2,4,25])],[(0,⟨List FOut×Nat,fun x=>[(1,(k1 (.sh 74 (typ dFOut eFOut l)))),(2,⟨.box,[.c (.sh 107 (typ dNote eNoteS w.front.disk.notes)),.c (.n .i64 w.front.disk.safe),.c (.ow 69 (typ dFTx eFTxS w.front.way)),.c (.ow 35 (typ dDisk eDiskS w.disks)),.c (.ow 46 (typ dMsg eMsg w.net)),.c (.ow 44 (typ dOpr eOpr w.ops)),.c (oFOuts (x.1))],[]⟩),(4,⟨.box,[.c (.ow 107 nilR),.c (.n .i64 ((0:Int))),.c (.ow 69 nilR),.c (.ow 35 nilR),.c (.ow 46 nilR),.c (.ow 44 nilR),.c (.ow 74 nilR)],[]⟩),(5,(k1 (.n .i64 (x.2:Int))))]⟩)],[],[],[]⟩) tab_ok mixed Tryz.func179 rfl Tryz.ntmps179 (rvs:=[.cell 4 141]) Tryz.results179 rfl fun hl=>?_
 refine cast (show (let k_4:Prop:=q_h w.front.way w.front.way;let k_3:Prop:=w.front.disk.safe=w.front.disk.safe;let k_2:Prop:=q_e w.front.disk.notes w.front.disk.notes;let k_1:Prop:=cnRs nilR=cnRs nilR/\i_0=i_0/\cnRs nilR=cnRs nilR/\cnRs nilR=cnRs nilR/\cnRs nilR=cnRs nilR/\cnRs nilR=cnRs nilR/\cnRs nilR=cnRs nilR;∃ (pre:List FOut×Nat->Prop),∃ (μ:List FOut×Nat->Nat),∃ (x0:List FOut×Nat),(q_k l l/\(k_2/\k_3/\k_4/\q_l w.disks w.disks/\q_g w.net w.net/\q_m w.ops w.ops/\q_k w.outs x0.1)/\k_1/\i_0=zi x0.2)/\pre x0/\(∀ (x:List FOut×Nat),pre x->(decide (zi x.2<zi l.length)=true->(decide (zi x.1.length<=i_29)=true->(i_0<=zi x.2/\zi x.2<zi l.length)/\(x.1.length+n_1)*n_16<=n_140737488355328/\(∃ (y:List FOut×Nat),(q_k l l/\(k_2/\k_3/\k_4/\q_l w.disks w.disks/\q_g w.net w.net/\q_m w.ops w.ops/\cnRs (appR (typ dFOut eFOut x.1) (raw [[cn_ (g_FOut l x.2).tx,CV.b (g_FOut l x.2).ok]]))=t_k y.1)/\k_1/\wr_ ((zi x.2)+i_1)=zi y.2)/\pre y/\μ y<μ x))/\(decide (zi x.1.length<=i_29)=false->∃ (y:List FOut×Nat),(q_k l l/\(k_2/\k_3/\k_4/\q_l w.disks w.disks/\q_g w.net w.net/\q_m w.ops w.ops/\q_k x.1 y.1)/\k_1/\wr_ ((zi x.2)+i_1)=zi y.2)/\pre y/\μ y<μ x))/\(decide (zi x.2<zi l.length)=false->k_2/\k_3/\k_4/\q_l w.disks w.disks/\q_g w.net w.net/\q_m w.ops w.ops/\q_k x.1 (outsN w.outs l))))=_ by kernel_rfl) ?_
 delta i_0 i_1 wr_ zi n_140737488355328 n_1 cn_ n_16 i_29 t_e q_e t_g q_g t_h q_h t_k q_k t_l t_m q_l q_m g_FOut
 have hx:l.length<=9223372036854775807:=hl.2.1 (.c (sFOuts l)) (by simp)
 simp only [zza,zzb,true_and,and_true,and_self,ne_eq,cI_app,cWrtO_app,cWrtS_app,cWrtO_1,cItemO_1,opr_ex,zcast,frz_nil,nil_map,Option.getD_none,Option.getD_some]
 refine ⟨fun x=>x.2<=l.length/\x.1=outsN w.outs (l.take x.2),⟨Nat.zero_le _,rfl⟩,fun x=>l.length-x.2,fun a i hp=>?_⟩
 obtain ⟨h1,h2⟩:=hp
 simp only at h1 h2
 have hl2:=outsN_len (l.take i) w.outs
 rw [<- h2] at hl2
 have go:i<l.length->∀ v,v=(if a.length<=29 then a++[l.getD i dFOut] else a)->∃ y:Nat,IntKind.i64.wrap ((i:Int)+1)=(y:Int)/\(y<=l.length/\v=outsN w.outs (l.take y))/\l.length-y<l.length-i:=fun hlt v hv =>
  ⟨i+1,wrapN (by omega),⟨by omega,by rw [hv,h2];simp only [outsN];rw [fold_succ (d:=dFOut) hlt]<;>rfl⟩,by omega⟩
 refine ⟨fun hlt=>⟨fun e=>⟨by omega,hlt,by omega,a++[l.getD i dFOut],by simp,go (by omega) _ (by rw [if_pos (by omega)]<;>rfl)⟩,fun e=>go (by omega) _ (by rw [if_neg (by omega)])⟩,fun hge=>?_⟩
 have:i=l.length:=by omega
 rw [h2,this,List.take_length]
def spec_l7Outs_c:Con Tryz.prog:=conP [.give,.lend] fun (b:Wld×List FOut) h=>spec_l7Outs_ok (b.1) (b.2) h
theorem spec_WldNew_ok (u:Unit):FunOK Tryz.prog 144 0 [] [] (·=[(0,kWldM newW)]):=by
 refine fun_to (E:=⟨tab,ctOf [],6,[],[(0,[0,1,2,3,4,5]),(1,[0,1,2,3,4,5])],[],[(1,[(3,[1,2,3]),(5,[5]),(2000005,[124])])],[],[]⟩) tab_ok mixed Tryz.func144 rfl Tryz.ntmps144 (rvs:=[.cell 0 141]) Tryz.results144 rfl fun hl=>?_
 refine cast (show (cnRs (frozenRs nilR)=t_e newW.front.disk.notes/\i_0=newW.front.disk.safe/\cnRs (frozenRs nilR)=t_h newW.front.way/\cnRs (frozenRs (raw [[CV.sh n_107 (frozenRs nilR),cn_ i_0],[CV.sh n_107 (frozenRs nilR),cn_ i_0],[CV.sh n_107 (frozenRs nilR),cn_ i_0]]))=t_l newW.disks/\cnRs (frozenRs nilR)=t_g newW.net/\cnRs (frozenRs nilR)=t_m newW.ops/\cnRs (frozenRs nilR)=t_k newW.outs)=_ by kernel_rfl) ?_
 delta i_0 cn_ t_e t_g t_h t_k t_l t_m n_107
 simp only [zza,zzb,true_and,and_true,and_self,ne_eq,cI_app,cWrtO_app,cWrtS_app,cWrtO_1,cItemO_1,opr_ex,zcast,frz_nil,nil_map,Option.getD_none,Option.getD_some]
 simp [newW]
def spec_WldNew_c:Con Tryz.prog:=con0 [] fun b:Unit=>spec_WldNew_ok b
theorem spec_l7Copy_ok (w:Wld) (hpre:smallW w):FunOK Tryz.prog 147 1 [] [(0,kWldS w)] (·=[(1,kWldO w)]):=by
 refine fun_to (E:=⟨tab,ctOf [spec_l6Copy_c,spec_l2Copy_c],40,[],[(0,[1,2,3,39]),(1,[1,2,3,39]),(2,[1,2,3,4,39]),(3,[1,2,3,4,25,39]),(4,[1,2,3,4,39]),(5,[1,2,3,4,39]),(6,[2,3,39])],[(0,⟨List Disk×Nat,fun x=>[(1,⟨.box,[.c (.sh 107 (typ dNote eNoteS w.front.disk.notes)),.c (.n .i64 w.front.disk.safe),.c (.sh 69 (typ dFTx eFTxS w.front.way)),.c (.sh 35 (typ dDisk eDiskS w.disks)),.c (.sh 46 (typ dMsg eMsg w.net)),.c (.sh 44 (typ dOpr eOpr w.ops)),.c (.sh 74 (typ dFOut eFOut w.outs))],[]⟩),(2,⟨.box,[.c (.ow 107 nilR),.c (.n .i64 ((0:Int))),.c (.ow 69 nilR),.c (.ow 35 nilR),.c (.ow 46 nilR),.c (.ow 44 nilR),.c (.ow 74 nilR)],[]⟩),(3,⟨.box,[.c (.ow 107 (typ dNote eNoteO w.front.disk.notes)),.c (.n .i64 w.front.disk.safe),.c (.ow 69 (typ dFTx eFTxO w.front.way)),.c (oDisks (x.1)),.c (.ow 46 (appR (raw []) (typ dMsg eMsg w.net))),.c (.ow 44 (appR (raw []) (typ dOpr eOpr w.ops))),.c (.ow 74 (appR (raw []) (typ dFOut eFOut w.outs)))],[]⟩),(4,(k1 (.n .i64 (x.2:Int))))]⟩)],[],[],[]⟩) tab_ok mixed Tryz.func147 rfl Tryz.ntmps147 (rvs:=[.cell 2 141]) Tryz.results147 rfl fun hl=>?_
 refine cast (show (let k_5:Prop:=w.front.disk.safe=w.front.disk.safe;let k_4:Prop:=q_f w.front.disk.notes w.front.disk.notes;let k_3:Prop:=cnRs nilR=cnRs nilR/\i_0=i_0/\cnRs nilR=cnRs nilR/\cnRs nilR=cnRs nilR/\cnRs nilR=cnRs nilR/\cnRs nilR=cnRs nilR/\cnRs nilR=cnRs nilR;let k_2:Prop:=q_e w.front.disk.notes w.front.disk.notes/\k_5/\q_h w.front.way w.front.way/\q_l w.disks w.disks/\q_g w.net w.net/\q_m w.ops w.ops/\q_k w.outs w.outs;let k_1:Prop:=cnRs (appR (raw []) (typ dMsg eMsg w.net))=cnRs (appR (raw []) (typ dMsg eMsg w.net))/\cnRs (appR (raw []) (typ dOpr eOpr w.ops))=cnRs (appR (raw []) (typ dOpr eOpr w.ops))/\cnRs (appR (raw []) (typ dFOut eFOut w.outs))=cnRs (appR (raw []) (typ dFOut eFOut w.outs));∃ (b:Front),(q_e w.front.disk.notes b.disk.notes/\w.front.disk.safe=b.disk.safe/\q_h w.front.way b.way)/\smallF b/\(n_0+w.net.length)*n_88<=n_140737488355328/\(n_0+w.ops.length)*n_56<=n_140737488355328/\(n_0+w.outs.length)*n_16<=n_140737488355328/\(∃ (pre:List Disk×Nat->Prop),∃ (μ:List Disk×Nat->Nat),∃ (x0:List Disk×Nat),(k_2/\k_3/\(q_f b.disk.notes w.front.disk.notes/\b.disk.safe=w.front.disk.safe/\q_j b.way w.front.way/\cnRs nilR=t_n x0.1/\k_1)/\i_0=zi x0.2)/\pre x0/\(∀ (x:List Disk×Nat),pre x->(decide (zi x.2<zi w.disks.length)=true->(i_0<=zi x.2/\zi x.2<zi w.disks.length)/\(∃ (b:Disk),(q_e (g_Disk w.disks x.2).notes b.notes/\(g_Disk w.disks x.2).safe=b.safe)/\smallD b/\(x.1.length+n_1)*n_32<=n_140737488355328/\(∃ (y:List Disk×Nat),(k_2/\k_3/\(k_4/\k_5/\q_j w.front.way w.front.way/\cnRs (appR (typ dDisk eDiskO x.1) (raw [[CV.ow n_107 (typ dNote eNoteO b.notes),cn_ b.safe]]))=t_n y.1/\k_1)/\wr_ ((zi x.2)+i_1)=zi y.2)/\pre y/\μ y<μ x)))/\(decide (zi x.2<zi w.disks.length)=false->k_4/\k_5/\q_j w.front.way w.front.way/\q_n x.1 w.disks/\cnRs (appR (raw []) (typ dMsg eMsg w.net))=t_g w.net/\cnRs (appR (raw []) (typ dOpr eOpr w.ops))=t_m w.ops/\cnRs (appR (raw []) (typ dFOut eFOut w.outs))=t_k w.outs))))=_ by kernel_rfl) ?_
 delta i_0 i_1 wr_ zi n_0 n_140737488355328 n_1 cn_ n_16 t_e q_e t_f q_f t_g q_g n_88 t_h q_h t_j q_j t_k q_k t_l t_m q_l q_m n_107 g_Disk t_n q_n n_56 n_32
 obtain ⟨p1,p2,p3,p4,p5,p6⟩:=hpre
 simp only [zza,zzb,true_and,and_true,and_self,ne_eq,cI_app,cWrtO_app,cWrtS_app,cWrtO_1,cItemO_1,opr_ex,zcast,frz_nil,nil_map,Option.getD_none,Option.getD_some]
 refine ⟨p1,by omega,by omega,by omega,fun x=>x.2<=w.disks.length/\x.1=w.disks.take x.2,⟨Nat.zero_le _,rfl⟩,fun x=>w.disks.length-x.2,fun a i hp=>?_⟩
 obtain ⟨h1,h2⟩:=hp
 simp only at h1 h2
 subst h2
 refine ⟨fun hlt=>?_,fun hge=>?_⟩
 ·have hm:w.disks.getD i dDisk∈w.disks:=by rw [getD_lt (by omega)];exact List.getElem_mem _
  refine ⟨by omega,hlt,p3 _ hm,by rw [List.length_take];omega,w.disks.take (i+1),?_,i+1,wrapN (by omega),⟨by simp only;omega,rfl⟩,by simp only;omega⟩
  rw [take_succ (d:=dDisk) (by omega)]
  simp
 ·have:i=w.disks.length:=by omega
  subst this
  simp
def spec_l7Copy_c:Con Tryz.prog:=conP [.lend] fun (b:Wld) h=>spec_l7Copy_ok b h
end Go.Proofs.AI
namespace Go.Proofs.AI
open Go.RowKit Go.Proofs
set_option linter.unusedVariables false
set_option linter.unusedSimpArgs false
set_option maxRecDepth 100000
def tameM (m:Msg):Prop:=(0<=m.to/\m.to<=3)/\(m.to=0->1<=m.frm/\m.frm<=3)
structure tame (w:Wld):Prop where
 fd:diskB w.front.disk=true
 way:∀ t∈w.front.way,ris3 t.can/\ris3 t.know
 wl:w.front.way.length<=30+w.ops.length
 d3:w.disks.length=3
 dd:∀ d∈w.disks,diskB d=true
 nl:w.net.length<=60
 nm:∀ m∈w.net,tameM m
 ol:w.ops.length<=30
 ul:w.outs.length<=30
def doW (w:Wld) (o:Opr):Wld :=
 if opOk o=true/\w.ops.length<=29 then (if (beginF w.front w.ops.length o).2.2=true then ⟨(beginF w.front w.ops.length o).1,w.disks,sendN w.net (beginF w.front w.ops.length o).2.1,w.ops++[o],w.outs⟩ else w) else w
def heardF (w:Wld) (net:List Msg) (m:Msg):Wld:=⟨(hearF w.front m).1,w.disks,sendN net (hearF w.front m).2.1,w.ops,outsN w.outs (hearF w.front m).2.2⟩
def heardD (w:Wld) (net:List Msg) (m:Msg):Wld:=⟨w.front,w.disks.set (m.to-1).toNat (hearD m.to (w.disks.getD (m.to-1).toNat dDisk) m).1,sendN net (hearD m.to (w.disks.getD (m.to-1).toNat dDisk) m).2,w.ops,w.outs⟩
def heardW (w:Wld) (k:Nat):Wld:=if (w.net.getD k dMsg).to=0 then heardF w (w.net.eraseIdx k) (w.net.getD k dMsg) else heardD w (w.net.eraseIdx k) (w.net.getD k dMsg)
def netW (w:Wld) (e:Evt):Wld :=
 if inR e.at_ 0 (w.net.length-1)=true then
  (if e.kind=2 then heardW w e.at_.toNat
  else if e.kind=4 then (if w.net.length<60 then ⟨w.front,w.disks,w.net++[w.net.getD e.at_.toNat dMsg],w.ops,w.outs⟩ else w)
  else ⟨w.front,w.disks,w.net.eraseIdx e.at_.toNat,w.ops,w.outs⟩) else w
def placeW (w:Wld) (e:Evt):Wld :=
 if inR e.place 0 3=true then
  (if e.kind=5/\e.place=0 then ⟨w.front,w.disks,sendN w.net (tickF w.front),w.ops,w.outs⟩
  else if e.kind=5 then ⟨w.front,w.disks,sendN w.net (tickD e.place (w.disks.getD (e.place-1).toNat dDisk)),w.ops,w.outs⟩
  else if e.place=0 then ⟨fallF w.front e.keep,w.disks,w.net,w.ops,w.outs⟩
  else ⟨w.front,w.disks.set (e.place-1).toNat (fallD (w.disks.getD (e.place-1).toNat dDisk) e.keep),w.net,w.ops,w.outs⟩) else w
def stepE (w:Wld) (e:Evt):Wld :=
 if e.kind=1 then doW w e.op
 else if e.kind=2∨e.kind=3∨e.kind=4 then netW w e
 else if e.kind=5∨e.kind=7 then placeW w e
 else if e.kind=6 then ⟨(giveF w.front e.at_).1,w.disks,sendN w.net (giveF w.front e.at_).2.1,w.ops,outsN w.outs (giveF w.front e.at_).2.2⟩
 else w
theorem cSetD (l:List Disk) (k:Nat) (hk:k<l.length) (d:Disk):cnRs ⟨l.length,fun i=>if i=k then setAt (eDiskS (l.getD k dDisk)) 0 (List.map cvOf [SC.c (sNotes d.notes),SC.c (.n .i64 d.safe)]) else eDiskS (l.getD i dDisk)⟩=(l.set k d).map nDiskS:=by
 rw [<- cDiskS]
 congr 1
 simp only [typ,List.length_set]
 congr 1
 funext i
 by_cases h:i=k
 ·subst h
  rw [if_pos rfl,getD_set_eq _ hk]
  simp [setAt,eDiskS,cvOf]
 ·rw [if_neg h]
  have:(l.set k d).getD i dDisk=l.getD i dDisk:=by simp [List.getD,List.getElem?_set,Ne.symm h]
  rw [this]
theorem fDisk1 (x:Disk):frozenR (eDiskS x)=eDiskS x:=by simp [eDiskS,frozenR,frozen]
theorem cMsgErase (l:List Msg) (k:Nat) (hk:k<l.length):cnRs (appR (appR (raw []) (cutR (typ dMsg eMsg l) 0 k)) (cutR (typ dMsg eMsg l) (k+1) l.length))=(l.eraseIdx k).map nMsg:=by
 rw [cnRs_app,cnRs_app,cut_typ _ (by omega),cut_typ _ (Nat.le_refl _),List.take_length,List.drop_zero,cMsg,cMsg,cnRs_raw,List.map_nil,List.nil_append,<- List.map_append,<- List.eraseIdx_eq_take_drop_succ]
theorem msg1 (l:List Msg) (m:Msg):cnRs (appR (typ dMsg eMsg l) (raw [eMsg m]))=(l++[m]).map nMsg:=by
 simp [eMsg]
theorem opr1 (l:List Opr) (o:Opr):cnRs (appR (typ dOpr eOpr l) (raw [eOpr o]))=(l++[o]).map nOpr:=by
 simp [eOpr]
theorem l6BeginNo_ok (f:Front) (tx:Int) (o:Opr) (hpre:noBegin f tx/\f.disk.notes.length<=1000/\f.way.length<=1000):FunOK Tryz.prog 65 3 [] [(0,kFrontS f),(1,kI tx),(2,kOp o)] (·=[(3,⟨.tup [(true,3),(false,1),(false,1)],[.c .any,.c .any,.c .any,.c (oMsgs []),.c (.b false)],[]⟩)]):=by
 refine fun_to (E:=⟨tab,ctOf [spec_l2Of_c,spec_l6At_c,spec_l6Send_c,spec_OpPlaces_c],69,[],[(0,[1,3,5,6,53,54,63,68]),(1,[1,3,5,6,52,53,54,63,68]),(2,[3,6,7,8,53,54,63,68]),(3,[1,3,5,6,53,54,63]),(4,[3,6,7,8,53,54,63,68])],[],[],[(1,⟨Bool,fun x=>[(1,(k1 (.n .i64 tx))),(3,⟨.box,[.c (.sh 107 (typ dNote eNoteS f.disk.notes)),.c (.n .i64 f.disk.safe),.c (.sh 69 (typ dFTx eFTxS f.way))],[]⟩),(5,⟨.box,[.c (.n .i64 o.kind),.c (.n .i64 o.who),.c (.n .i64 o.inn),.c (.n .i64 o.code),.c (.n .i64 o.sec),.c (.n .i64 o.fam),.c (.n .i64 o.gen)],[]⟩),(6,⟨.box,[.c (.ow 107 nilR),.c (.n .i64 ((0:Int))),.c (.ow 69 nilR)],[]⟩),(52,(k1 (.b (x))))]⟩)],[]⟩) tab_ok mixed Tryz.func65 rfl Tryz.ntmps65 (rvs:=[.cell 6 38,.tmp 7,.tmp 8]) Tryz.results65 rfl fun hl=>?_
 refine cast (show (let k_3:Prop:=cnRs nilR=cnRs nilR/\i_0=i_0/\cnRs nilR=cnRs nilR;let k_2:Prop:=q_e f.disk.notes f.disk.notes/\f.disk.safe=f.disk.safe/\q_h f.way f.way;let k_1:Prop:=o.kind=o.kind/\o.who=o.who/\o.inn=o.inn/\o.code=o.code/\o.sec=o.sec/\o.fam=o.fam/\o.gen=o.gen;∃ (post:Bool->Prop),let k_5:Prop:=∃ (x:Bool),(tx=tx/\k_2/\k_1/\k_3/\true=x)/\post x;let k_4:Prop:=∃ (x:Bool),(tx=tx/\k_2/\k_1/\k_3/\decide (wr_ (wr_ ((zi f.disk.notes.length)+wr_ (i_2*(zi f.way.length)))+i_2)>i_120)=x)/\post x;(∃ (b:Front×Int),((q_e f.disk.notes b.1.disk.notes/\f.disk.safe=b.1.disk.safe/\q_h f.way b.1.way)/\tx=b.2)/\(decide (atF b.1.way b.2≥i_0)=false->∃ (b:List Note×Int),(q_e f.disk.notes b.1/\tx=b.2)/\((ofN b.1 b.2 != i_0)=false->(decide ((zi f.way.length)>i_0)=true->(i_0<=wr_ ((zi f.way.length)-i_1)/\wr_ ((zi f.way.length)-i_1)<zi f.way.length)/\(decide ((f.way.getD (wr_ ((zi f.way.length)-i_1)).toNat dFTx).tx>tx)=false->k_4)/\(decide ((f.way.getD (wr_ ((zi f.way.length)-i_1)).toNat dFTx).tx>tx)=true->k_5))/\(decide ((zi f.way.length)>i_0)=false->k_4))/\((ofN b.1 b.2 != i_0)=true->k_5))/\(decide (atF b.1.way b.2≥i_0)=true->k_5))/\(∀ (x:Bool),post x->(x=true->True/\True/\True/\cnRs (raw [])=t_g []/\false=false)/\(x=false->False)))=_ by kernel_rfl) ?_
 delta i_0 i_1 i_2 wr_ zi t_e q_e i_120 t_g t_h q_h
 obtain ⟨p0,p1,p2⟩:=hpre
 simp only [zza,zzb,true_and,and_true,and_self,ne_eq,cI_app,cWrtO_app,cWrtS_app,cWrtO_1,cItemO_1,opr_ex,zcast,frz_nil,nil_map,Option.getD_none,Option.getD_some]
 have e1:IntKind.i64.wrap (2*(f.way.length:Int))=2*(f.way.length:Int):=IntWalk.i64_in _ (by omega)
 rw [e1,IntWalk.i64_in ((f.disk.notes.length:Int)+2*(f.way.length:Int)) (by omega),IntWalk.i64_in ((f.disk.notes.length:Int)+2*(f.way.length:Int)+2) (by omega)]
 refine ⟨fun z=>(z=true↔noBegin f tx),fun h1=>⟨fun h2=>⟨fun h4=>?_,fun h4=>?_⟩,fun h2=>?_⟩,fun h1=>?_,fun z hz h=>?_⟩
 ·have hw:IntKind.i64.wrap ((f.way.length:Int)-1)=((f.way.length-1:Nat):Int):=by rw [IntWalk.i64_in _ (by omega)];omega
  rw [hw,Int.toNat_natCast]
  simp at h2
  refine ⟨by omega,by omega,fun h5=>?_,fun h5=>?_⟩
  ·simp only [noBegin,decide_eq_true_eq,h2];omega
  ·simp only [noBegin,true_iff];right;right;left;exact ⟨by omega,h5⟩
 ·simp at h2
  simp only [noBegin,decide_eq_true_eq,h2];omega
 ·simp only [noBegin,true_iff];exact .inr (.inl h2)
 ·simp only [noBegin,true_iff];exact .inl h1
 ·rw [hz.2 p0] at h;cases h
def l6BeginNo_c:Con Tryz.prog:=conP [.lend,.lend,.lend] fun (b:Front×Int×Opr) h=>l6BeginNo_ok (b.1) (b.2.1) (b.2.2) h
theorem l7DoNo_ok (w:Wld) (o:Opr) (hpre:tame w/\noBegin w.front w.ops.length):FunOK Tryz.prog 175 2 [] [(0,kWldM w),(1,kOp o)] (·=[(2,kWldM w)]):=by
 refine fun_to (E:=⟨tab,ctOf [spec_OpOk_c,spec_l6Begin_c,spec_l7Send_c],43,[],[(0,[2,3,4,17,31,42]),(1,[2,3,4,16,17,31,42]),(2,[2,4,17,31,42]),(3,[2,3,4,5,6,7,17,18,25,27,31,42]),(4,[2,3,4,5,6,17,18,25,27,30,31,42]),(5,[2,4,17,31,42]),(6,[2,3,4,6,17,18,25,27,31,42]),(7,[2,4,6,17,18,25,27,31,42]),(8,[2,4,17,31,42])],[],[(7,[(1000002,[])]),(8,[(1000001,[])])],[(1,⟨Bool,fun x=>[(2,⟨.box,[.c (.sh 107 (typ dNote eNoteS w.front.disk.notes)),.c (.n .i64 w.front.disk.safe),.c (.ow 69 (typ dFTx eFTxS w.front.way)),.c (.ow 35 (typ dDisk eDiskS w.disks)),.c (.ow 46 (typ dMsg eMsg w.net)),.c (.ow 44 (typ dOpr eOpr w.ops)),.c (.ow 74 (typ dFOut eFOut w.outs))],[]⟩),(3,⟨.box,[.c (.n .i64 o.kind),.c (.n .i64 o.who),.c (.n .i64 o.inn),.c (.n .i64 o.code),.c (.n .i64 o.sec),.c (.n .i64 o.fam),.c (.n .i64 o.gen)],[]⟩),(4,⟨.box,[.c (.ow 107 nilR),.c (.n .i64 ((0:Int))),.c (.ow 69 nilR),.c (.ow 35 nilR),.c (.ow 46 nilR),.c (.ow 44 nilR),.c (.ow 74 nilR)],[]⟩),(16,(k1 (.b (x))))]⟩)],[(3,[l6BeginNo_c])]⟩) tab_ok mixed Tryz.func175 rfl Tryz.ntmps175 (rvs:=[.cell 4 141]) Tryz.results175 rfl fun hl=>?_
 refine cast (show (let k_5:Prop:=True/\True/\True/\True/\True/\True/\True/\True;let k_4:Prop:=∀ (k:Nat),True/\True/\True/\True/\k_5;let k_3:Prop:=o.kind=o.kind/\o.who=o.who/\o.inn=o.inn/\o.code=o.code/\o.sec=o.sec/\o.fam=o.fam/\o.gen=o.gen;let k_2:Prop:=cnRs nilR=cnRs nilR/\i_0=i_0/\cnRs nilR=cnRs nilR/\cnRs nilR=cnRs nilR/\cnRs nilR=cnRs nilR/\cnRs nilR=cnRs nilR/\cnRs nilR=cnRs nilR;let k_1:Prop:=q_e w.front.disk.notes w.front.disk.notes/\w.front.disk.safe=w.front.disk.safe/\q_h w.front.way w.front.way/\q_l w.disks w.disks/\q_g w.net w.net/\q_m w.ops w.ops/\q_k w.outs w.outs;∃ (post:Bool->Prop),(∃ (b:Opr),(o.kind=b.kind/\o.who=b.who/\o.inn=b.inn/\o.code=b.code/\o.sec=b.sec/\o.fam=b.fam/\o.gen=b.gen)/\((!opOk b)=false->∃ (x:Bool),(k_1/\k_3/\k_2/\decide ((zi w.ops.length)>i_29)=x)/\post x)/\((!opOk b)=true->∃ (x:Bool),(k_1/\k_3/\k_2/\true=x)/\post x))/\(∀ (x:Bool),post x->(x=true->k_1)/\(x=false->∃ (b:Front×Int×Opr),((q_e w.front.disk.notes b.1.disk.notes/\w.front.disk.safe=b.1.disk.safe/\cnRs (frozenRs (typ dFTx eFTxS w.front.way))=t_h b.1.way)/\zi w.ops.length=b.2.1/\o.kind=b.2.2.kind/\o.who=b.2.2.who/\o.inn=b.2.2.inn/\o.code=b.2.2.code/\o.sec=b.2.2.sec/\o.fam=b.2.2.fam/\o.gen=b.2.2.gen)/\(noBegin b.1 b.2.1/\b.1.disk.notes.length<=n_1000/\b.1.way.length<=n_1000)/\((True/\True/\True/\k_4/\True/\True)/\True)/\((!false)=true->k_1)/\((!false)=false->(w.ops.length+n_1)*n_56<=n_140737488355328/\(∃ (b:Wld×List Msg),((False/\False/\False/\q_l w.disks b.1.disks/\q_g w.net b.1.net/\cnRs (appR (typ dOpr eOpr w.ops) (raw [[cn_ o.kind,cn_ o.who,cn_ o.inn,cn_ o.code,cn_ o.sec,cn_ o.fam,cn_ o.gen]]))=t_m b.1.ops/\q_k w.outs b.1.outs)/\cnRs (frozenRs (typ dMsg eMsg []))=t_g b.2)/\b.1.net.length<=n_1000/\((False/\True/\(∀ (k:Nat),True/\True/\True/\True/\True/\True/\True/\True/\True/\False/\False/\True)/\(∀ (k:Nat),False/\True/\True)/\k_4/\(∀ (k:Nat),k_5)/\(∀ (k:Nat),True/\True/\True)/\True)/\True)/\q_e b.1.front.disk.notes w.front.disk.notes/\b.1.front.disk.safe=w.front.disk.safe/\q_h b.1.front.way w.front.way/\q_l b.1.disks w.disks/\q_g (sendN b.1.net b.2) w.net/\q_m b.1.ops w.ops/\q_k b.1.outs w.outs)))))=_ by kernel_rfl) ?_
 delta i_0 zi n_140737488355328 n_1 n_1000 cn_ i_29 t_e q_e t_g q_g t_h q_h t_k q_k t_l t_m q_l q_m n_56
 obtain ⟨p0,p1⟩:=hpre
 have a1:=p0.wl
 have a2:=(diskB_small p0.fd).2.1
 have a3:=p0.ol
 simp only [zza,zzb,true_and,and_true,and_self,ne_eq,cI_app,cWrtO_app,cWrtS_app,cWrtO_1,cItemO_1,opr_ex,zcast,frz_nil,nil_map,Option.getD_none,Option.getD_some]
 exact ⟨fun _=>True,fun _=>trivial,fun _=>trivial,fun x _ hx=>⟨p1,by omega,by omega,fun h=>absurd h (by simp)⟩⟩
theorem l7DoYes_ok (w:Wld) (o:Opr) (hpre:tame w/\¬ noBegin w.front w.ops.length):FunOK Tryz.prog 175 2 [] [(0,kWldM w),(1,kOp o)] (·=[(2,kWldM (doW w o))]):=by
 refine fun_to (E:=⟨tab,ctOf [spec_OpOk_c,spec_l6Begin_c,spec_l7Send_c],43,[],[(0,[2,3,4,17,31,42]),(1,[2,3,4,16,17,31,42]),(2,[2,4,17,31,42]),(3,[2,3,4,5,6,7,17,18,25,27,31,42]),(4,[2,3,4,5,6,17,18,25,27,30,31,42]),(5,[2,4,17,31,42]),(6,[2,3,4,6,17,18,25,27,31,42]),(7,[2,4,6,17,18,25,27,31,42]),(8,[2,4,17,31,42])],[],[(3,[(7,[25]),(2000007,[4])]),(7,[(1000002,[])]),(8,[(1000001,[])])],[(1,⟨Bool,fun x=>[(2,⟨.box,[.c (.sh 107 (typ dNote eNoteS w.front.disk.notes)),.c (.n .i64 w.front.disk.safe),.c (.ow 69 (typ dFTx eFTxS w.front.way)),.c (.ow 35 (typ dDisk eDiskS w.disks)),.c (.ow 46 (typ dMsg eMsg w.net)),.c (.ow 44 (typ dOpr eOpr w.ops)),.c (.ow 74 (typ dFOut eFOut w.outs))],[]⟩),(3,⟨.box,[.c (.n .i64 o.kind),.c (.n .i64 o.who),.c (.n .i64 o.inn),.c (.n .i64 o.code),.c (.n .i64 o.sec),.c (.n .i64 o.fam),.c (.n .i64 o.gen)],[]⟩),(4,⟨.box,[.c (.ow 107 nilR),.c (.n .i64 ((0:Int))),.c (.ow 69 nilR),.c (.ow 35 nilR),.c (.ow 46 nilR),.c (.ow 44 nilR),.c (.ow 74 nilR)],[]⟩),(16,(k1 (.b (x))))]⟩)],[(3,[spec_l6Begin_c])]⟩) tab_ok mixed Tryz.func175 rfl Tryz.ntmps175 (rvs:=[.cell 4 141]) Tryz.results175 rfl fun hl=>?_
 refine cast (show (let k_6:Prop:=w.front.disk.safe=(doW w o).front.disk.safe;let k_5:Prop:=q_e w.front.disk.notes (doW w o).front.disk.notes;let k_4:Prop:=q_l w.disks (doW w o).disks/\q_g w.net (doW w o).net/\q_m w.ops (doW w o).ops/\q_k w.outs (doW w o).outs;let k_3:Prop:=o.kind=o.kind/\o.who=o.who/\o.inn=o.inn/\o.code=o.code/\o.sec=o.sec/\o.fam=o.fam/\o.gen=o.gen;let k_2:Prop:=cnRs nilR=cnRs nilR/\i_0=i_0/\cnRs nilR=cnRs nilR/\cnRs nilR=cnRs nilR/\cnRs nilR=cnRs nilR/\cnRs nilR=cnRs nilR/\cnRs nilR=cnRs nilR;let k_1:Prop:=q_e w.front.disk.notes w.front.disk.notes/\w.front.disk.safe=w.front.disk.safe/\q_h w.front.way w.front.way/\q_l w.disks w.disks/\q_g w.net w.net/\q_m w.ops w.ops/\q_k w.outs w.outs;∃ (post:Bool->Prop),(∃ (b:Opr),(o.kind=b.kind/\o.who=b.who/\o.inn=b.inn/\o.code=b.code/\o.sec=b.sec/\o.fam=b.fam/\o.gen=b.gen)/\((!opOk b)=false->∃ (x:Bool),(k_1/\k_3/\k_2/\decide ((zi w.ops.length)>i_29)=x)/\post x)/\((!opOk b)=true->∃ (x:Bool),(k_1/\k_3/\k_2/\true=x)/\post x))/\(∀ (x:Bool),post x->(x=true->k_5/\k_6/\q_h w.front.way (doW w o).front.way/\k_4)/\(x=false->∃ (b:Front×Int×Opr),((q_e w.front.disk.notes b.1.disk.notes/\w.front.disk.safe=b.1.disk.safe/\q_h w.front.way b.1.way)/\zi w.ops.length=b.2.1/\o.kind=b.2.2.kind/\o.who=b.2.2.who/\o.inn=b.2.2.inn/\o.code=b.2.2.code/\o.sec=b.2.2.sec/\o.fam=b.2.2.fam/\o.gen=b.2.2.gen)/\(b.1.disk.notes.length<=n_1000/\b.1.way.length<=n_1000)/\((!(beginF b.1 b.2.1 b.2.2).2.2)=true->k_5/\k_6/\False/\k_4)/\((!(beginF b.1 b.2.1 b.2.2).2.2)=false->(w.ops.length+n_1)*n_56<=n_140737488355328/\(∃ (b_1:Wld×List Msg),((q_e (beginF b.1 b.2.1 b.2.2).1.disk.notes b_1.1.front.disk.notes/\(beginF b.1 b.2.1 b.2.2).1.disk.safe=b_1.1.front.disk.safe/\cnRs (frozenRs (typ dFTx eFTxS (beginF b.1 b.2.1 b.2.2).1.way))=t_h b_1.1.front.way/\q_l w.disks b_1.1.disks/\q_g w.net b_1.1.net/\cnRs (appR (typ dOpr eOpr w.ops) (raw [[cn_ o.kind,cn_ o.who,cn_ o.inn,cn_ o.code,cn_ o.sec,cn_ o.fam,cn_ o.gen]]))=t_m b_1.1.ops/\q_k w.outs b_1.1.outs)/\cnRs (frozenRs (typ dMsg eMsg (beginF b.1 b.2.1 b.2.2).2.1))=t_g b_1.2)/\b_1.1.net.length<=n_1000/\q_e b_1.1.front.disk.notes (doW w o).front.disk.notes/\b_1.1.front.disk.safe=(doW w o).front.disk.safe/\q_h b_1.1.front.way (doW w o).front.way/\q_l b_1.1.disks (doW w o).disks/\q_g (sendN b_1.1.net b_1.2) (doW w o).net/\q_m b_1.1.ops (doW w o).ops/\q_k b_1.1.outs (doW w o).outs)))))=_ by kernel_rfl) ?_
 delta i_0 zi n_140737488355328 n_1 n_1000 cn_ i_29 t_e q_e t_g q_g t_h q_h t_k q_k t_l t_m q_l q_m n_56
 obtain ⟨p0,p1⟩:=hpre
 have a1:=p0.wl
 have a2:=(diskB_small p0.fd).2.1
 have a3:=p0.ol
 have a4:=p0.nl
 have hb:(beginF w.front w.ops.length o).2.2=true:=by simp only [beginF,if_neg p1]
 simp only [zza,zzb,true_and,and_true,and_self,ne_eq,cI_app,cWrtO_app,cWrtS_app,cWrtO_1,cItemO_1,opr_ex,zcast,frz_nil,nil_map,Option.getD_none,Option.getD_some]
 refine ⟨fun z=>(z=true↔¬ (opOk o=true/\w.ops.length<=29)),fun h=>?_,fun h=>?_,fun z hz=>⟨fun h=>?_,fun h=>?_⟩⟩
 ·simp at h
  simp only [decide_eq_true_eq,h,true_and];omega
 ·simp at h
  simp [h]
 ·have hd:doW w o=w:=by simp only [doW,if_neg (hz.1 h)]
  simp only [hd,and_self]
 ·have hc:opOk o=true/\w.ops.length<=29:=Classical.byContradiction fun hc=>by rw [hz.2 hc] at h;cases h
  have hd:doW w o=⟨(beginF w.front w.ops.length o).1,w.disks,sendN w.net (beginF w.front w.ops.length o).2.1,w.ops++[o],w.outs⟩:=by simp only [doW,if_pos hc,if_pos hb]
  rw [hd,hb]
  refine ⟨by omega,by omega,fun h=>absurd h (by simp),fun _=>⟨by omega,⟨(beginF w.front w.ops.length o).1,w.disks,w.net,w.ops++[o],w.outs⟩,rfl,rfl,rfl,rfl,rfl,opr1 _ _,rfl,?_,rfl,rfl,rfl,rfl,rfl,rfl,rfl⟩⟩
  show w.net.length<=1000
  omega
theorem spec_l7Hear_ok (w:Wld) (k:Nat) (hpre:tame w/\k<w.net.length):FunOK Tryz.prog 204 2 [] [(0,kWldM w),(1,kI k)] (·=[(2,kWldM (heardW w k))]):=by
 refine fun_to (E:=⟨tab,ctOf [spec_l6Hear_c,spec_l7Outs_c,spec_l7Send_c,spec_PlcHear_c],73,[],[(0,[1,2,4,48,72]),(1,[1,2,4,5,48,72]),(2,[1,2,4,5,6,17,18,19,20,21,22,48,72]),(3,[2,4,5,48,72]),(4,[2,4,5,33,48,72]),(5,[2,4,7,8,9,34,38,40,41,48,72]),(6,[2,4,8,9,34,38,40,41,48,72]),(7,[4,48,72]),(8,[2,4,5,10,11,48,49,60,62,72]),(9,[2,4,11,48,49,60,62,72]),(10,[4,48,72])],[],[(2,[(0,[2]),(2000000,[111])]),(3,[(1000000,[])]),(5,[(4,[38]),(2000004,[4])]),(7,[(1000001,[]),(1000003,[])]),(8,[(11,[60])]),(10,[(1000001,[])])],[],[]⟩) tab_ok mixed Tryz.func204 rfl Tryz.ntmps204 (rvs:=[.cell 4 141]) Tryz.results204 rfl fun hl=>?_
 refine cast (show (let k_2:Prop:=(wr_ ((g_Msg w.net k).to-i_1)).toNat<w.disks.length;let k_1:Prop:=i_0<=wr_ ((g_Msg w.net k).to-i_1)/\wr_ ((g_Msg w.net k).to-i_1)<zi w.disks.length;(i_0<=zi k/\zi k<zi w.net.length)/\(zi k).toNat<w.net.length/\(i_0<=none.getD i_0/\none.getD i_0<=(some (zi k)).getD (zi w.net.length)/\(some (zi k)).getD (zi w.net.length)<=zi w.net.length)/\(n_0+(((some (zi k)).getD (zi w.net.length)).toNat-(none.getD i_0).toNat))*n_88<=n_140737488355328/\(i_0<=(some (wr_ ((zi k)+i_1))).getD i_0/\(some (wr_ ((zi k)+i_1))).getD i_0<=none.getD (zi w.net.length)/\none.getD (zi w.net.length)<=zi w.net.length)/\(n_0+(((some (zi k)).getD (zi w.net.length)).toNat-(none.getD i_0).toNat)+((none.getD (zi w.net.length)).toNat-((some (wr_ ((zi k)+i_1))).getD i_0).toNat))*n_88<=n_140737488355328/\(((g_Msg w.net k).to==i_0)=true->∃ (b:Front×Msg),((q_e w.front.disk.notes b.1.disk.notes/\w.front.disk.safe=b.1.disk.safe/\cnRs (frozenRs (typ dFTx eFTxS w.front.way))=t_h b.1.way)/\(g_Msg w.net k).kind=b.2.kind/\(g_Msg w.net k).to=b.2.to/\(g_Msg w.net k).frm=b.2.frm/\(g_Msg w.net k).tx=b.2.tx/\(g_Msg w.net k).op.kind=b.2.op.kind/\(g_Msg w.net k).op.who=b.2.op.who/\(g_Msg w.net k).op.inn=b.2.op.inn/\(g_Msg w.net k).op.code=b.2.op.code/\(g_Msg w.net k).op.sec=b.2.op.sec/\(g_Msg w.net k).op.fam=b.2.op.fam/\(g_Msg w.net k).op.gen=b.2.op.gen)/\(b.1.way.length<=n_1000/\(∀ (t:FTx),t∈b.1.way->smallT t))/\(∃ (b_1:Wld×List Msg),((q_e (hearF b.1 b.2).1.disk.notes b_1.1.front.disk.notes/\(hearF b.1 b.2).1.disk.safe=b_1.1.front.disk.safe/\cnRs (frozenRs (typ dFTx eFTxS (hearF b.1 b.2).1.way))=t_h b_1.1.front.way/\cnRs (frozenRs (typ dDisk eDiskS w.disks))=t_l b_1.1.disks/\cnRs (appR (appR (raw []) (cutR (frozenRs (typ dMsg eMsg w.net)) (none.getD i_0).toNat ((some (zi k)).getD (zi w.net.length)).toNat)) (cutR (frozenRs (typ dMsg eMsg w.net)) ((some (wr_ ((zi k)+i_1))).getD i_0).toNat (none.getD (zi w.net.length)).toNat))=t_g b_1.1.net/\cnRs (frozenRs (typ dOpr eOpr w.ops))=t_m b_1.1.ops/\cnRs (frozenRs (typ dFOut eFOut w.outs))=t_k b_1.1.outs)/\cnRs (frozenRs (typ dMsg eMsg (hearF b.1 b.2).2.1))=t_g b_1.2)/\b_1.1.net.length<=n_1000/\(∃ (b_2:Wld×List FOut),((q_e b_1.1.front.disk.notes b_2.1.front.disk.notes/\b_1.1.front.disk.safe=b_2.1.front.disk.safe/\q_h b_1.1.front.way b_2.1.front.way/\q_l b_1.1.disks b_2.1.disks/\q_g (sendN b_1.1.net b_1.2) b_2.1.net/\q_m b_1.1.ops b_2.1.ops/\q_k b_1.1.outs b_2.1.outs)/\cnRs (frozenRs (typ dFOut eFOut (hearF b.1 b.2).2.2))=t_k b_2.2)/\b_2.1.outs.length<=n_1000/\q_e b_2.1.front.disk.notes (heardW w k).front.disk.notes/\b_2.1.front.disk.safe=(heardW w k).front.disk.safe/\q_h b_2.1.front.way (heardW w k).front.way/\q_l b_2.1.disks (heardW w k).disks/\q_g b_2.1.net (heardW w k).net/\q_m b_2.1.ops (heardW w k).ops/\q_k (outsN b_2.1.outs b_2.2) (heardW w k).outs)))/\(((g_Msg w.net k).to==i_0)=false->k_1/\k_2/\(∃ (b:Int×Disk×Msg),((g_Msg w.net k).to=b.1/\(q_e (w.disks.getD (wr_ ((g_Msg w.net k).to-i_1)).toNat dDisk).notes b.2.1.notes/\(w.disks.getD (wr_ ((g_Msg w.net k).to-i_1)).toNat dDisk).safe=b.2.1.safe)/\(g_Msg w.net k).kind=b.2.2.kind/\(g_Msg w.net k).to=b.2.2.to/\(g_Msg w.net k).frm=b.2.2.frm/\(g_Msg w.net k).tx=b.2.2.tx/\(g_Msg w.net k).op.kind=b.2.2.op.kind/\(g_Msg w.net k).op.who=b.2.2.op.who/\(g_Msg w.net k).op.inn=b.2.2.op.inn/\(g_Msg w.net k).op.code=b.2.2.op.code/\(g_Msg w.net k).op.sec=b.2.2.op.sec/\(g_Msg w.net k).op.fam=b.2.2.op.fam/\(g_Msg w.net k).op.gen=b.2.2.op.gen)/\k_1/\k_2/\(∃ (b_1:Wld×List Msg),((q_e w.front.disk.notes b_1.1.front.disk.notes/\w.front.disk.safe=b_1.1.front.disk.safe/\cnRs (frozenRs (typ dFTx eFTxS w.front.way))=t_h b_1.1.front.way/\cnRs { n:=w.disks.length,f:=fun (i:Nat)=>if i=(wr_ ((g_Msg w.net k).to-i_1)).toNat then setAt (frozenR (eDiskS (w.disks.getD (wr_ ((g_Msg w.net k).to-i_1)).toNat dDisk))) n_0 (List.map cvOf [SC.c (CV.sh n_107 (frozenRs (typ dNote eNoteO (hearD b.1 b.2.1 b.2.2).1.notes))),SC.c (cn_ (hearD b.1 b.2.1 b.2.2).1.safe)]) else frozenR (eDiskS (w.disks.getD i dDisk)) }=t_l b_1.1.disks/\cnRs (appR (appR (raw []) (cutR (frozenRs (typ dMsg eMsg w.net)) (none.getD i_0).toNat ((some (zi k)).getD (zi w.net.length)).toNat)) (cutR (frozenRs (typ dMsg eMsg w.net)) ((some (wr_ ((zi k)+i_1))).getD i_0).toNat (none.getD (zi w.net.length)).toNat))=t_g b_1.1.net/\cnRs (frozenRs (typ dOpr eOpr w.ops))=t_m b_1.1.ops/\cnRs (frozenRs (typ dFOut eFOut w.outs))=t_k b_1.1.outs)/\cnRs (frozenRs (typ dMsg eMsg (hearD b.1 b.2.1 b.2.2).2))=t_g b_1.2)/\b_1.1.net.length<=n_1000/\q_e b_1.1.front.disk.notes (heardW w k).front.disk.notes/\b_1.1.front.disk.safe=(heardW w k).front.disk.safe/\q_h b_1.1.front.way (heardW w k).front.way/\q_l b_1.1.disks (heardW w k).disks/\q_g (sendN b_1.1.net b_1.2) (heardW w k).net/\q_m b_1.1.ops (heardW w k).ops/\q_k b_1.1.outs (heardW w k).outs))))=_ by kernel_rfl) ?_
 delta i_0 i_1 wr_ zi n_0 n_140737488355328 n_1000 cn_ t_e q_e t_g q_g n_88 t_h q_h t_k q_k g_Msg t_l t_m q_l q_m n_107
 obtain ⟨p0,p1⟩:=hpre
 have a1:=p0.wl
 have a3:=p0.ol
 have a4:=p0.nl
 have a5:=p0.ul
 have a6:=p0.d3
 have hm:w.net.getD k dMsg∈w.net:=by rw [getD_lt p1];exact List.getElem_mem p1
 obtain ⟨⟨ht1,ht2⟩,ht3⟩:=p0.nm _ hm
 have he:(w.net.eraseIdx k).length<=60:=by
  simp only [List.length_eraseIdx]
  split<;>omega
 simp only [zza,zzb,true_and,and_true,and_self,ne_eq,cI_app,cWrtO_app,cWrtS_app,cWrtO_1,cItemO_1,opr_ex,zcast,frz_nil,nil_map,Option.getD_none,Option.getD_some]
 have hi:Int.toNat 0=0:=rfl
 rw [hi,wrapN (by omega)]
 simp only [Int.toNat_natCast]
 rw [cMsgErase _ _ p1]
 refine ⟨by omega,by omega,p1,by omega,by omega,by omega,by omega,by omega,by omega,by omega,by omega,fun h0=>?_,fun h0=>?_⟩
 ·refine ⟨by omega,fun t ht=>?_,⟨(hearF w.front (w.net.getD k dMsg)).1,w.disks,w.net.eraseIdx k,w.ops,w.outs⟩,rfl,rfl,rfl,rfl,rfl,rfl,rfl,?_,?_,?_⟩
  ·have:=p0.way t ht
   exact ⟨by have:=ris3_len this.1;omega,by have:=ris3_len this.2;omega⟩
  ·show (w.net.eraseIdx k).length<=1000
   omega
  ·show w.outs.length<=1000
   omega
  ·simp only [heardW,if_pos h0,heardF,and_self]
 ·have hw:IntKind.i64.wrap ((w.net.getD k dMsg).to-1)=(w.net.getD k dMsg).to-1:=IntWalk.i64_in _ (by omega)
  simp only [hw]
  have hk:((w.net.getD k dMsg).to-1).toNat<w.disks.length:=by omega
  refine ⟨by omega,by omega,hk,by omega,by omega,hk,⟨w.front,w.disks.set ((w.net.getD k dMsg).to-1).toNat (hearD (w.net.getD k dMsg).to (w.disks.getD ((w.net.getD k dMsg).to-1).toNat dDisk) (w.net.getD k dMsg)).1,w.net.eraseIdx k,w.ops,w.outs⟩,rfl,rfl,rfl,?_,rfl,rfl,rfl,?_,?_⟩
  ·simp only [fDisk1]
   exact cSetD _ _ hk _
  ·show (w.net.eraseIdx k).length<=1000
   omega
  ·simp only [heardW,if_neg h0,heardD,and_self]
def spec_l7Hear_c:Con Tryz.prog:=conP [.give,.lend] fun (b:Wld×Nat) h=>spec_l7Hear_ok (b.1) (b.2) h
theorem spec_l7Net_ok (w:Wld) (e:Evt) (hpre:tame w):FunOK Tryz.prog 176 2 [] [(0,kWldM w),(1,kEvt e)] (·=[(2,kWldM (netW w e))]):=by
 refine fun_to (E:=⟨tab,ctOf [spec_l1In_c,spec_l7Hear_c],58,[],[(0,[2,3,4,14,22,40,57]),(1,[2,3,4,13,14,22,40,57]),(2,[2,4,14,22,40,57]),(3,[2,3,4,14,16,22,40,57]),(4,[2,3,4,14,16,17,22,40,57]),(5,[2,4,14,22,40,57]),(6,[2,3,4,14,22,23,40,57]),(7,[2,3,4,14,22,28,40,57]),(8,[2,4,14,22,40,57]),(9,[2,4,14,22,40,57]),(10,[2,3,4,5,14,22,40,41,42,43,45,46,47,57]),(11,[2,4,14,22,40,57]),(12,[2,4,14,22,40,57])],[],[(10,[(0,[2]),(2000000,[111])]),(11,[(1000000,[])])],[],[]⟩) tab_ok mixed Tryz.func176 rfl Tryz.ntmps176 (rvs:=[.cell 4 141]) Tryz.results176 rfl fun hl=>?_
 refine cast (show (let k_5:Prop:=q_h w.front.way (netW w e).front.way;let k_4:Prop:=w.front.disk.safe=(netW w e).front.disk.safe;let k_3:Prop:=q_e w.front.disk.notes (netW w e).front.disk.notes;let k_2:Prop:=q_m w.ops (netW w e).ops/\q_k w.outs (netW w e).outs;let k_1:Prop:=k_3/\k_4/\k_5/\q_l w.disks (netW w e).disks/\q_g w.net (netW w e).net/\k_2;∃ (b:Int×Int×Int),(e.at_=b.1/\i_0=b.2.1/\wr_ ((zi w.net.length)-i_1)=b.2.2)/\((!inR b.1 b.2.1 b.2.2)=true->k_1)/\((!inR b.1 b.2.1 b.2.2)=false->((e.kind==i_2)=true->∃ (b:Wld×Nat),((q_e w.front.disk.notes b.1.front.disk.notes/\w.front.disk.safe=b.1.front.disk.safe/\q_h w.front.way b.1.front.way/\q_l w.disks b.1.disks/\q_g w.net b.1.net/\q_m w.ops b.1.ops/\q_k w.outs b.1.outs)/\e.at_=zi b.2)/\(tame b.1/\b.2<b.1.net.length)/\q_e (heardW b.1 b.2).front.disk.notes (netW w e).front.disk.notes/\(heardW b.1 b.2).front.disk.safe=(netW w e).front.disk.safe/\q_h (heardW b.1 b.2).front.way (netW w e).front.way/\q_l (heardW b.1 b.2).disks (netW w e).disks/\q_g (heardW b.1 b.2).net (netW w e).net/\q_m (heardW b.1 b.2).ops (netW w e).ops/\q_k (heardW b.1 b.2).outs (netW w e).outs)/\((e.kind==i_2)=false->((e.kind==i_4)=true->(decide (zi w.net.length<i_60)=true->(i_0<=e.at_/\e.at_<zi w.net.length)/\e.at_.toNat<w.net.length/\(w.net.length+n_1)*n_88<=n_140737488355328/\k_3/\k_4/\k_5/\q_l w.disks (netW w e).disks/\cnRs (appR (typ dMsg eMsg w.net) (raw [[cn_ (w.net.getD e.at_.toNat dMsg).kind,cn_ (w.net.getD e.at_.toNat dMsg).to,cn_ (w.net.getD e.at_.toNat dMsg).frm,cn_ (w.net.getD e.at_.toNat dMsg).tx,cn_ (w.net.getD e.at_.toNat dMsg).op.kind,cn_ (w.net.getD e.at_.toNat dMsg).op.who,cn_ (w.net.getD e.at_.toNat dMsg).op.inn,cn_ (w.net.getD e.at_.toNat dMsg).op.code,cn_ (w.net.getD e.at_.toNat dMsg).op.sec,cn_ (w.net.getD e.at_.toNat dMsg).op.fam,cn_ (w.net.getD e.at_.toNat dMsg).op.gen]]))=t_g (netW w e).net/\k_2)/\(decide (zi w.net.length<i_60)=false->k_1))/\((e.kind==i_4)=false->(i_0<=none.getD i_0/\none.getD i_0<=(some e.at_).getD (zi w.net.length)/\(some e.at_).getD (zi w.net.length)<=zi w.net.length)/\(n_0+(((some e.at_).getD (zi w.net.length)).toNat-(none.getD i_0).toNat))*n_88<=n_140737488355328/\(i_0<=(some (wr_ (e.at_+i_1))).getD i_0/\(some (wr_ (e.at_+i_1))).getD i_0<=none.getD (zi w.net.length)/\none.getD (zi w.net.length)<=zi w.net.length)/\(n_0+(((some e.at_).getD (zi w.net.length)).toNat-(none.getD i_0).toNat)+((none.getD (zi w.net.length)).toNat-((some (wr_ (e.at_+i_1))).getD i_0).toNat))*n_88<=n_140737488355328/\k_3/\k_4/\cnRs (frozenRs (typ dFTx eFTxS w.front.way))=t_h (netW w e).front.way/\cnRs (frozenRs (typ dDisk eDiskS w.disks))=t_l (netW w e).disks/\cnRs (appR (appR (raw []) (cutR (frozenRs (typ dMsg eMsg w.net)) (none.getD i_0).toNat ((some e.at_).getD (zi w.net.length)).toNat)) (cutR (frozenRs (typ dMsg eMsg w.net)) ((some (wr_ (e.at_+i_1))).getD i_0).toNat (none.getD (zi w.net.length)).toNat))=t_g (netW w e).net/\cnRs (frozenRs (typ dOpr eOpr w.ops))=t_m (netW w e).ops/\cnRs (frozenRs (typ dFOut eFOut w.outs))=t_k (netW w e).outs))))=_ by kernel_rfl) ?_
 delta i_0 i_1 i_2 i_4 wr_ zi n_0 n_140737488355328 n_1 cn_ t_e q_e t_g q_g n_88 t_h q_h t_k q_k t_l t_m q_l q_m i_60
 have a4:=hpre.nl
 simp only [zza,zzb,true_and,and_true,and_self,ne_eq,cI_app,cWrtO_app,cWrtS_app,cWrtO_1,cItemO_1,opr_ex,zcast,frz_nil,nil_map,Option.getD_none,Option.getD_some]
 have e1:IntKind.i64.wrap ((w.net.length:Int)-1)=(w.net.length:Int)-1:=IntWalk.i64_in _ (by omega)
 rw [e1]
 refine ⟨fun h=>?_,fun h=>?_⟩
 ·have h:¬ inR e.at_ 0 ((w.net.length:Int)-1)=true:=by simpa using h
  simp only [netW,if_neg h,and_self]
 ·have h:inR e.at_ 0 ((w.net.length:Int)-1)=true:=by simpa using h
  have hr:0<=e.at_/\e.at_<=(w.net.length:Int)-1:=by simpa [inR] using h
  have hk:e.at_.toNat<w.net.length:=by omega
  simp only [netW,if_pos h]
  refine ⟨fun h2=>⟨e.at_.toNat,by omega,hpre,hk,?_⟩,fun h2=>⟨fun h4=>⟨fun h5=>?_,fun h5=>?_⟩,fun h4=>?_⟩⟩
  ·simp only [if_pos h2,and_self]
  ·refine ⟨by omega,by omega,hk,by omega,?_⟩
   simp only [if_neg h2,if_pos h4,if_pos (show w.net.length<60 by omega),true_and,and_true]
   exact msg1 _ _
  ·simp only [if_neg h2,if_pos h4,if_neg (show ¬ w.net.length<60 by omega),and_self]
  ·have e2:IntKind.i64.wrap (e.at_+1)=e.at_+1:=IntWalk.i64_in _ (by omega)
   have hi:Int.toNat 0=0:=rfl
   rw [e2,hi]
   have e3:(e.at_+1).toNat=e.at_.toNat+1:=by omega
   rw [e3,cMsgErase _ _ hk]
   simp only [if_neg h2,if_neg h4,true_and,and_true]
   refine ⟨by omega,by omega,by omega,by omega,by omega,by omega,by omega,by omega⟩
def spec_l7Net_c:Con Tryz.prog:=conP [.give,.lend] fun (b:Wld×Evt) h=>spec_l7Net_ok (b.1) (b.2) h
theorem spec_l7Place_ok (w:Wld) (e:Evt) (hpre:tame w):FunOK Tryz.prog 177 2 [] [(0,kWldM w),(1,kEvt e)] (·=[(2,kWldM (placeW w e))]):=by
 refine fun_to (E:=⟨tab,ctOf [spec_l1In_c,spec_l7Send_c,spec_FroTick_c,spec_PlcTick_c,spec_FroFall_c,spec_DiskFall_c],67,[],[(0,[2,3,4,9,39,55,66]),(1,[2,3,4,8,9,39,55,66]),(2,[2,4,9,39,55,66]),(3,[2,4,9,39,55,66]),(4,[2,3,4,9,26,39,55,66]),(5,[2,4,9,39,55,66]),(6,[2,3,4,9,39,40,55,66]),(7,[2,4,9,39,55,66]),(8,[2,3,4,9,39,55,56,66]),(9,[2,4,9,39,55,66]),(10,[2,4,9,39,55,66])],[],[(3,[(16,[24])]),(5,[(4,[38])]),(7,[(11,[54])]),(9,[(5,[64]),(2000005,[4])])],[],[]⟩) tab_ok mixed Tryz.func177 rfl Tryz.ntmps177 (rvs:=[.cell 4 141]) Tryz.results177 rfl fun hl=>?_
 refine cast (show (let k_9:Prop:=∀ (k:Nat),True/\True;let k_8:Prop:=q_h w.front.way (placeW w e).front.way;let k_7:Prop:=(wr_ (e.place-i_1)).toNat<w.disks.length;let k_6:Prop:=w.front.disk.safe=(placeW w e).front.disk.safe;let k_5:Prop:=q_e w.front.disk.notes (placeW w e).front.disk.notes;let k_4:Prop:=i_0<=wr_ (e.place-i_1)/\wr_ (e.place-i_1)<zi w.disks.length;let k_3:Prop:=q_g w.net (placeW w e).net/\q_m w.ops (placeW w e).ops/\q_k w.outs (placeW w e).outs;let k_2:Prop:=q_l w.disks (placeW w e).disks/\k_3;let k_1:Prop:=((e.kind==i_5)=true->k_4/\k_7/\(∃ (b:Int×Disk),(e.place=b.1/\q_e (w.disks.getD (wr_ (e.place-i_1)).toNat dDisk).notes b.2.notes/\(w.disks.getD (wr_ (e.place-i_1)).toNat dDisk).safe=b.2.safe)/\(∃ (b_1:Wld×List Msg),((q_e w.front.disk.notes b_1.1.front.disk.notes/\w.front.disk.safe=b_1.1.front.disk.safe/\q_h w.front.way b_1.1.front.way/\q_l w.disks b_1.1.disks/\q_g w.net b_1.1.net/\q_m w.ops b_1.1.ops/\q_k w.outs b_1.1.outs)/\cnRs (frozenRs (typ dMsg eMsg (tickD b.1 b.2)))=t_g b_1.2)/\b_1.1.net.length<=n_1000/\q_e b_1.1.front.disk.notes (placeW w e).front.disk.notes/\b_1.1.front.disk.safe=(placeW w e).front.disk.safe/\q_h b_1.1.front.way (placeW w e).front.way/\q_l b_1.1.disks (placeW w e).disks/\q_g (sendN b_1.1.net b_1.2) (placeW w e).net/\q_m b_1.1.ops (placeW w e).ops/\q_k b_1.1.outs (placeW w e).outs)))/\((e.kind==i_5)=false->((e.place==i_0)=true->∃ (b:Front×Int),((q_e w.front.disk.notes b.1.disk.notes/\w.front.disk.safe=b.1.disk.safe/\cnRs (frozenRs (typ dFTx eFTxS w.front.way))=t_h b.1.way)/\e.keep=b.2)/\(((∀ (k:Nat),True/\True/\k_9/\(∀ (k:Nat),True/\True/\k_9/\True)/\True)/\True/\(∀ (k:Nat),True/\True/\True/\True/\True/\True/\True/\True/\True/\k_9/\k_9/\True)/\True)/\True)/\cnRs (frozenRs (typ dNote eNoteO (fallF b.1 b.2).disk.notes))=t_e (placeW w e).front.disk.notes/\(fallF b.1 b.2).disk.safe=(placeW w e).front.disk.safe/\cnRs (frozenRs (typ dFTx eFTxO (fallF b.1 b.2).way))=t_h (placeW w e).front.way/\k_2)/\((e.place==i_0)=false->k_4/\k_7/\(∃ (b:Disk×Int),((q_e (w.disks.getD (wr_ (e.place-i_1)).toNat dDisk).notes b.1.notes/\(w.disks.getD (wr_ (e.place-i_1)).toNat dDisk).safe=b.1.safe)/\e.keep=b.2)/\k_4/\k_7/\k_5/\k_6/\k_8/\cnRs { n:=w.disks.length,f:=fun (i:Nat)=>if i=(wr_ (e.place-i_1)).toNat then setAt (eDiskS (w.disks.getD (wr_ (e.place-i_1)).toNat dDisk)) n_0 (List.map cvOf [SC.c (CV.sh n_107 (frozenRs (typ dNote eNoteO (fallD b.1 b.2).notes))),SC.c (cn_ (fallD b.1 b.2).safe)]) else eDiskS (w.disks.getD i dDisk) }=t_l (placeW w e).disks/\k_3)));∃ (b:Int×Int×Int),(e.place=b.1/\i_0=b.2.1/\i_3=b.2.2)/\((!inR b.1 b.2.1 b.2.2)=true->k_5/\k_6/\k_8/\k_2)/\((!inR b.1 b.2.1 b.2.2)=false->((e.kind==i_5)=true->((e.place==i_0)=true->∃ (b:Front),(q_e w.front.disk.notes b.disk.notes/\w.front.disk.safe=b.disk.safe/\cnRs (frozenRs (typ dFTx eFTxS w.front.way))=t_h b.way)/\(((∀ (k:Nat),True/\True/\True/\True/\True/\True/\True/\True/\True/\True/\True/\True)/\True)/\True)/\(∃ (b_1:Wld×List Msg),((q_e w.front.disk.notes b_1.1.front.disk.notes/\w.front.disk.safe=b_1.1.front.disk.safe/\q_h w.front.way b_1.1.front.way/\q_l w.disks b_1.1.disks/\q_g w.net b_1.1.net/\q_m w.ops b_1.1.ops/\q_k w.outs b_1.1.outs)/\cnRs (frozenRs (typ dMsg eMsg (tickF b)))=t_g b_1.2)/\b_1.1.net.length<=n_1000/\q_e b_1.1.front.disk.notes (placeW w e).front.disk.notes/\b_1.1.front.disk.safe=(placeW w e).front.disk.safe/\q_h b_1.1.front.way (placeW w e).front.way/\q_l b_1.1.disks (placeW w e).disks/\q_g (sendN b_1.1.net b_1.2) (placeW w e).net/\q_m b_1.1.ops (placeW w e).ops/\q_k b_1.1.outs (placeW w e).outs))/\((e.place==i_0)=false->k_1))/\((e.kind==i_5)=false->k_1)))=_ by kernel_rfl) ?_
 delta i_0 i_1 i_5 i_3 wr_ zi n_0 n_1000 cn_ t_e q_e t_g q_g t_h q_h t_k q_k t_l t_m q_l q_m n_107
 have a4:=hpre.nl
 have a6:=hpre.d3
 simp only [zza,zzb,true_and,and_true,and_self,ne_eq,cI_app,cWrtO_app,cWrtS_app,cWrtO_1,cItemO_1,opr_ex,zcast,frz_nil,nil_map,Option.getD_none,Option.getD_some]
 refine ⟨fun h=>?_,fun h=>?_⟩
 ·have h:¬ inR e.place 0 3=true:=by simpa using h
  simp only [placeW,if_neg h,and_self]
 ·have h:inR e.place 0 3=true:=by simpa using h
  have hr:0<=e.place/\e.place<=3:=by simpa [inR] using h
  simp only [placeW,if_pos h]
  have hw:e.place≠0->IntKind.i64.wrap (e.place-1)=e.place-1:=fun _=>IntWalk.i64_in _ (by omega)
  have hk:e.place≠0->(e.place-1).toNat<w.disks.length:=fun _=>by omega
  refine ⟨fun h5=>⟨fun h0=>?_,fun h0=>⟨fun _=>?_,fun h5'=>absurd h5 h5'⟩⟩,fun h5=>⟨fun h5'=>absurd h5' h5,fun _=>⟨fun h0=>?_,fun h0=>?_⟩⟩⟩
  ·refine ⟨by omega,?_⟩
   simp only [if_pos (And.intro h5 h0),and_self]
  ·rw [hw h0]
   refine ⟨by omega,by omega,hk h0,by omega,?_⟩
   simp only [if_neg (show ¬ (e.kind=5/\e.place=0) from fun h=>h0 h.2),if_pos h5,and_self]
  ·simp only [if_neg (show ¬ (e.kind=5/\e.place=0) from fun h=>h5 h.1),if_neg h5,if_pos h0,and_self]
  ·simp only [hw h0,if_neg (show ¬ (e.kind=5/\e.place=0) from fun h=>h5 h.1),if_neg h5,if_neg h0,true_and,and_true]
   exact ⟨by omega,by omega,hk h0,by omega,by omega,hk h0,cSetD _ _ (hk h0) _⟩
def spec_l7Place_c:Con Tryz.prog:=conP [.give,.lend] fun (b:Wld×Evt) h=>spec_l7Place_ok (b.1) (b.2) h
end Go.Proofs.AI
namespace Go.Proofs.AI
open Go.RowKit Go.Proofs
set_option linter.unusedVariables false
set_option linter.unusedSimpArgs false
set_option maxRecDepth 100000
theorem ris3_cases {l:List Int} (h:ris3 l):l=[]∨l=[1]∨l=[2]∨l=[3]∨l=[1,2]∨l=[1,3]∨l=[2,3]∨l=[1,2,3]:=by
 have hl:=ris3_len h
 obtain ⟨h1,h2⟩:=h
 match l,h1,h2,hl with
 | [],_,_,_=>simp
 | [a],_,h2,_ =>
  have ha:=h2 a (by simp)
  have:a=1∨a=2∨a=3:=by omega
  rcases this with rfl | rfl | rfl<;>simp
 | [a,b],h1,h2,_ =>
  have ha:=h2 a (by simp)
  have hb:=h2 b (by simp)
  simp at h1
  have:(a=1/\b=2)∨(a=1/\b=3)∨(a=2/\b=3):=by omega
  rcases this with ⟨rfl,rfl⟩ | ⟨rfl,rfl⟩ | ⟨rfl,rfl⟩<;>simp
 | [a,b,c],h1,h2,_ =>
  have ha:=h2 a (by simp)
  have hc:=h2 c (by simp)
  simp at h1
  have:a=1/\b=2/\c=3:=by omega
  obtain ⟨rfl,rfl,rfl⟩:=this
  simp
 | a::b::c::d::r,_,_,hl=>simp at hl
theorem putP_ris {l:List Int} (h:ris3 l) {n:Int} (hn:1<=n/\n<=3):ris3 (putP l n):=by
 have:n=1∨n=2∨n=3:=by omega
 unfold ris3
 rcases ris3_cases h with rfl | rfl | rfl | rfl | rfl | rfl | rfl | rfl<;>rcases this with rfl | rfl | rfl<;>decide
theorem ris3_nil:ris3 []:=⟨List.Pairwise.nil,by simp⟩
theorem sendN_mem {l:List Msg}:∀ {net:List Msg} {m:Msg},m∈sendN net l->m∈net∨m∈l:=by
 induction l with
 | nil=>intro net m h;exact .inl h
 | cons x l ih =>
  intro net m h
  simp only [sendN,List.foldl_cons] at h
  split at h
  ·rcases ih (net:=net++[x]) h with h | h
   ·rcases List.mem_append.1 h with h | h
    ·exact .inl h
    ·simp at h;subst h;exact .inr (by simp)
   ·exact .inr (by simp [h])
  ·rcases ih (net:=net) h with h | h
   ·exact .inl h
   ·exact .inr (by simp [h])
theorem sendF_tame {k tx:Int} {o:Opr} {ps:List Int} (h:∀ p∈ps,1<=p/\p<=3):∀ m∈sendF k tx o ps,tameM m:=by
 intro m hm
 obtain ⟨p,hp,rfl⟩:=List.mem_map.1 hm
 have:=h p hp
 exact ⟨⟨by simp only;omega,by simp only;omega⟩,fun h0=>by simp only at h0;omega⟩
theorem lessP_sub {l s:List Int} {x:Int} (h:x∈lessP l s):x∈l:=(List.mem_filter.1 h).1
theorem places13' (o:Opr):∀ p∈placesL o,1<=p/\p<=3:=by
 simp only [placesL]
 repeat' split
 all_goals simp
theorem tickF_tame (f:Front):∀ m∈tickF f,tameM m:=by
 intro m hm
 simp only [tickF] at hm
 split at hm
 ·obtain ⟨t,_,ht⟩:=List.mem_flatMap.1 hm
  simp only [tickT] at ht
  split at ht
  ·exact sendF_tame (fun p hp=>by have:=lessP_sub hp;simp at this;omega) m ht
  ·exact sendF_tame (fun p hp=>places13' _ p (lessP_sub hp)) m ht
 ·simp at hm
theorem msgF_tame {k p tx:Int} (hp:1<=p/\p<=3):tameM (msgF k p tx):=⟨⟨by simp,by simp⟩,fun _=>hp⟩
theorem tickD_tame {p:Int} {d:Disk}:∀ m∈tickD p d,tameM m:=by
 intro m hm
 simp only [tickD] at hm
 split at hm
 ·rename_i hp
  obtain ⟨x,_,rfl⟩:=List.mem_map.1 hm
  exact msgF_tame (by simpa [inR] using hp)
 ·simp at hm
theorem hearD_tame {p:Int} {d:Disk} {m:Msg}:∀ q∈(hearD p d m).2,tameM q:=by
 intro q hq
 simp only [hearD] at hq
 split at hq
 ·rename_i hh
  simp only [Bool.and_eq_true] at hh
  have hp:1<=p/\p<=3:=by simpa [inR] using hh.1.1.1
  have one:∀ {k tx:Int},q=msgF k p tx->tameM q:=fun h=>h▸msgF_tame hp
  split at hq
  ·simp only [askD] at hq
   repeat' split at hq
   all_goals (simp only [List.mem_singleton] at hq;exact one hq)
  ·simp only [toldD] at hq
   repeat' split at hq
   all_goals first | (simp only [List.mem_singleton] at hq;exact one hq) | (simp at hq)
 ·simp at hq
theorem hearD_ok {p:Int} {d:Disk} {m:Msg}:diskB (hearD p d m).1=true:=by
 simp only [hearD]
 split
 ·rename_i hh
  simp only [Bool.and_eq_true] at hh
  split
  ·exact askD_ok _ _ hh.1.1.2
  ·exact toldD_ok _ _ hh.1.1.2
 ·rfl
structure tameF (f:Front) (n:Nat):Prop where
 fd:diskB f.disk=true
 way:∀ t∈f.way,ris3 t.can/\ris3 t.know
 wl:f.way.length<=30+n
theorem tame.F {w:Wld} (h:tame w):tameF w.front w.ops.length:=⟨h.fd,h.way,h.wl⟩
theorem noF_tame {f:Front} {n:Nat} (h:tameF f n) (k:Nat):tameF (noF f k).1 n/\∀ m∈(noF f k).2.1,tameM m:=by
 refine ⟨⟨h.fd,fun t ht=>h.way t (List.mem_of_mem_eraseIdx ht),?_⟩,sendF_tame (places13' _)⟩
 have:=h.wl
 simp only [noF,goneF,List.length_eraseIdx]
 split<;>omega
theorem setT_tame {f:Front} {n:Nat} (h:tameF f n) {k:Nat} {t:FTx} (ht:ris3 t.can/\ris3 t.know):tameF (setT f k t) n:=by
 refine ⟨h.fd,fun u hu=>?_,by have:=h.wl;simpa [setT] using this⟩
 rcases List.mem_or_eq_of_mem_set hu with hu | rfl
 ·exact h.way u hu
 ·exact ht
theorem hearF_tame {f:Front} {n:Nat} (h:tameF f n) {m:Msg} (hm:1<=m.frm/\m.frm<=3):tameF (hearF f m).1 n/\∀ q∈(hearF f m).2.1,tameM q:=by
 have hT:∀ k,k<f.way.length->ris3 (f.way.getD k dFTx).can/\ris3 (f.way.getD k dFTx).know:=fun k hk=>h.way _ (by rw [getD_lt hk];exact List.getElem_mem hk)
 have nil:∀ q∈([]:List Msg),tameM q:=fun q hq=>by simp at hq
 simp only [hearF]
 split
 ·rename_i hc
  have hl:=(atF_lt hc.2.1).1
  generalize (atF f.way m.tx).toNat=k at *
  obtain ⟨t1,t2⟩:=hT k hl
  refine ⟨?_,nil⟩
  simp only [knowF]
  have hk:ris3 (knowT (f.way.getD k dFTx) m.frm).can/\ris3 (knowT (f.way.getD k dFTx) m.frm).know:=⟨t1,putP_ris t2 hm⟩
  split
  ·exact setT_tame h hk
  ·split
   ·refine ⟨addD_ok _ _ _ h.fd,fun t ht=>h.way t (List.mem_of_mem_eraseIdx ht),?_⟩
    have:=h.wl
    simp only [List.length_eraseIdx]
    split<;>omega
   ·exact setT_tame h hk
 ·split
  ·rename_i hc
   have hl:=(atF_lt hc.2.1).1
   generalize (atF f.way m.tx).toNat=k at *
   obtain ⟨t1,t2⟩:=hT k hl
   have hk:ris3 (canT (f.way.getD k dFTx) m.frm).can/\ris3 (canT (f.way.getD k dFTx) m.frm).know:=⟨putP_ris t1 hm,t2⟩
   simp only [canF]
   split
   ·exact ⟨setT_tame h hk,nil⟩
   ·split
    ·have:=setT_tame h (k:=k) (t:=yesT (canT (f.way.getD k dFTx) m.frm)) hk
     exact ⟨⟨addD_ok _ _ _ h.fd,this.way,this.wl⟩,sendF_tame (by simp)⟩
    ·exact noF_tame (setT_tame h hk) k
  ·split
   ·exact noF_tame h _
   ·split
    ·refine ⟨h,?_⟩
     have hf:∀ p∈[m.frm],1<=p/\p<=3:=fun p hp=>by simp at hp;subst hp;exact hm
     simp only [whatF]
     split
     ·exact sendF_tame hf
     ·split
      ·exact nil
      ·exact sendF_tame hf
    ·exact ⟨h,nil⟩
theorem giveF_tame {f:Front} {n:Nat} (h:tameF f n) (tx:Int):tameF (giveF f tx).1 n/\∀ q∈(giveF f tx).2.1,tameM q:=by
 have nil:∀ q∈([]:List Msg),tameM q:=fun q hq=>by simp at hq
 simp only [giveF]
 split
 ·split
  ·exact ⟨h,nil⟩
  ·exact noF_tame h _
 ·exact ⟨⟨rfl,by simp,by simp⟩,nil⟩
theorem fallF_tame {f:Front} {n:Nat} (h:tameF f n) (keep:Int):tameF (fallF f keep) n:=by
 simp only [fallF]
 split
 ·refine ⟨fallD_ok h.fd keep,fun t ht=>?_,?_⟩
  ·obtain ⟨i,_,_,rfl⟩:=fallW_mem ht
   exact ⟨ris3_nil,ris3_nil⟩
  ·have:=fallW_len (fallD f.disk keep).notes 30
   simp only;omega
 ·exact ⟨rfl,by simp,by simp⟩
theorem send_tame {w:Wld} (h:tame w) {l:List Msg} (hl:∀ m∈l,tameM m) {f:Front} {n:List Msg} (hf:tameF f w.ops.length) (hn:∀ m∈n,m∈w.net) (hnl:n.length<=60) {o:List FOut} (ho:o.length<=30):tame ⟨f,w.disks,sendN n l,w.ops,o⟩:=by
 refine ⟨hf.fd,hf.way,hf.wl,h.d3,h.dd,?_,fun m hm=>?_,h.ol,ho⟩
 ·have:=sendN_len l n;simp only;omega
 ·rcases sendN_mem hm with hm | hm
  ·exact h.nm m (hn m hm)
  ·exact hl m hm
theorem disk_tame {w:Wld} (h:tame w) {l:List Msg} (hl:∀ m∈l,tameM m) {n:List Msg} (hn:∀ m∈n,m∈w.net) (hnl:n.length<=60) {k:Nat} {d:Disk} (hd:diskB d=true):tame ⟨w.front,w.disks.set k d,sendN n l,w.ops,w.outs⟩:=by
 refine ⟨h.fd,h.way,h.wl,by simpa using h.d3,fun x hx=>?_,?_,fun m hm=>?_,h.ol,h.ul⟩
 ·rcases List.mem_or_eq_of_mem_set hx with hx | rfl
  ·exact h.dd x hx
  ·exact hd
 ·have:=sendN_len l n;simp only;omega
 ·rcases sendN_mem hm with hm | hm
  ·exact h.nm m (hn m hm)
  ·exact hl m hm
theorem doW_tame {w:Wld} (h:tame w) (o:Opr):tame (doW w o):=by
 simp only [doW]
 split
 ·rename_i hc
  split
  ·rename_i hb
   have hf:tameF (beginF w.front w.ops.length o).1 (w.ops.length+1)/\∀ m∈(beginF w.front w.ops.length o).2.1,tameM m:=by
    have nil:∀ q∈([]:List Msg),tameM q:=fun q hq=>by simp at hq
    have:=h.wl
    simp only [beginF]
    split
    ·exact ⟨⟨h.fd,h.way,by simp only;omega⟩,nil⟩
    ·refine ⟨⟨h.fd,fun t ht=>?_,by simp only [List.length_append,List.length_singleton];omega⟩,sendF_tame (places13' _)⟩
     rcases List.mem_append.1 ht with ht | ht
     ·exact h.way t ht
     ·simp at ht;subst ht;exact ⟨ris3_nil,ris3_nil⟩
   refine ⟨hf.1.fd,hf.1.way,by simpa using hf.1.wl,h.d3,h.dd,?_,fun m hm=>?_,by simp only [List.length_append,List.length_singleton];omega,h.ul⟩
   ·have:=sendN_len (beginF w.front w.ops.length o).2.1 w.net;have:=h.nl;simp only;omega
   ·rcases sendN_mem hm with hm | hm
    ·exact h.nm m hm
    ·exact hf.2 m hm
  ·exact h
 ·exact h
theorem heardW_tame {w:Wld} (h:tame w) {k:Nat} (hk:k<w.net.length):tame (heardW w k):=by
 have hm:w.net.getD k dMsg∈w.net:=by rw [getD_lt hk];exact List.getElem_mem hk
 have ht:=h.nm _ hm
 have hn:(w.net.eraseIdx k).length<=60:=by
  have:=h.nl
  simp only [List.length_eraseIdx]
  split<;>omega
 simp only [heardW]
 split
 ·rename_i h0
  obtain ⟨a,b⟩:=hearF_tame h.F (ht.2 h0)
  refine send_tame h b a (fun m hm=>List.mem_of_mem_eraseIdx hm) hn ?_
  have:=outsN_len (hearF w.front (w.net.getD k dMsg)).2.2 w.outs
  have:=h.ul
  omega
 ·exact disk_tame h hearD_tame (fun m hm=>List.mem_of_mem_eraseIdx hm) hn hearD_ok
theorem netW_tame {w:Wld} (h:tame w) (e:Evt):tame (netW w e):=by
 simp only [netW]
 split
 ·rename_i hr
  have hr:0<=e.at_/\e.at_<=(w.net.length:Int)-1:=by simpa [inR] using hr
  have hk:e.at_.toNat<w.net.length:=by omega
  split
  ·exact heardW_tame h hk
  ·split
   ·split
    ·refine ⟨h.fd,h.way,h.wl,h.d3,h.dd,by simp only [List.length_append,List.length_singleton];omega,fun m hm=>?_,h.ol,h.ul⟩
     rcases List.mem_append.1 hm with hm | hm
     ·exact h.nm m hm
     ·simp only [List.mem_singleton] at hm;subst hm
      exact h.nm _ (by rw [getD_lt hk];exact List.getElem_mem hk)
    ·exact h
   ·refine ⟨h.fd,h.way,h.wl,h.d3,h.dd,?_,fun m hm=>h.nm m (List.mem_of_mem_eraseIdx hm),h.ol,h.ul⟩
    have:=h.nl
    simp only [List.length_eraseIdx]
    split<;>omega
 ·exact h
theorem placeW_tame {w:Wld} (h:tame w) (e:Evt):tame (placeW w e):=by
 simp only [placeW]
 split
 ·rename_i hr
  have hr:0<=e.place/\e.place<=3:=by simpa [inR] using hr
  split
  ·exact send_tame h (tickF_tame _) h.F (fun m hm=>hm) h.nl h.ul
  ·split
   ·exact send_tame h tickD_tame h.F (fun m hm=>hm) h.nl h.ul
   ·split
    ·have:=fallF_tame h.F e.keep
     exact ⟨this.fd,this.way,this.wl,h.d3,h.dd,h.nl,h.nm,h.ol,h.ul⟩
    ·rename_i h0
     have hk:(e.place-1).toNat<w.disks.length:=by have:=h.d3;omega
     have hd:=h.dd (w.disks.getD (e.place-1).toNat dDisk) (by rw [getD_lt hk];exact List.getElem_mem hk)
     refine ⟨h.fd,h.way,h.wl,by simpa using h.d3,fun x hx=>?_,h.nl,h.nm,h.ol,h.ul⟩
     rcases List.mem_or_eq_of_mem_set hx with hx | rfl
     ·exact h.dd x hx
     ·exact fallD_ok hd _
 ·exact h
theorem stepE_tame {w:Wld} (h:tame w) (e:Evt):tame (stepE w e):=by
 simp only [stepE]
 split
 ·exact doW_tame h _
 ·split
  ·exact netW_tame h e
  ·split
   ·exact placeW_tame h e
   ·split
    ·obtain ⟨a,b⟩:=giveF_tame h.F e.at_
     refine send_tame h b a (fun m hm=>hm) h.nl ?_
     have:=outsN_len (giveF w.front e.at_).2.2 w.outs
     have:=h.ul
     omega
    ·exact h
theorem newW_tame:tame newW:=by
 refine ⟨rfl,by simp [newW],by simp [newW],rfl,fun d hd=>?_,by simp [newW],by simp [newW],by simp [newW],by simp [newW]⟩
 simp [newW] at hd
 rw [hd]<;>rfl
theorem tame_small {w:Wld} (h:tame w):smallW w:=by
 have hw:=h.wl
 have ho:=h.ol
 refine ⟨⟨(diskB_small h.fd).1,by omega,fun t ht=>?_⟩,by have:=h.d3;omega,fun d hd=>(diskB_small (h.dd d hd)).1,by have:=h.nl;omega,by omega,by have:=h.ul;omega⟩
 have:=h.way t ht
 exact ⟨by have:=ris3_len this.1;omega,by have:=ris3_len this.2;omega⟩
theorem spec_l7Do_ok (w:Wld) (o:Opr) (hpre:tame w):FunOK Tryz.prog 175 2 [] [(0,kWldM w),(1,kOp o)] (·=[(2,kWldM (doW w o))]):=by
 by_cases h:noBegin w.front w.ops.length
 ·have e:doW w o=w:=by simp [doW,beginF,if_pos h]
  rw [e]
  exact l7DoNo_ok w o ⟨hpre,h⟩
 ·exact l7DoYes_ok w o ⟨hpre,h⟩
def spec_l7Do_c:Con Tryz.prog:=conP [.give,.lend] fun (b:Wld×Opr) h=>spec_l7Do_ok (b.1) (b.2) h
theorem spec_l7Step_ok (w:Wld) (e:Evt) (hpre:tame w):FunOK Tryz.prog 146 2 [] [(0,kWldM w),(1,kEvt e)] (·=[(2,kWldM (stepE w e))]):=by
 refine fun_to (E:=⟨tab,ctOf [spec_l7Do_c,spec_l7Net_c,spec_l7Place_c,spec_FroGive_c,spec_l7Outs_c,spec_l7Send_c],48,[],[(0,[2,3,4,15,22,28,46,47]),(1,[2,3,4,9,15,22,28,46,47]),(2,[2,3,4,9,10,15,22,28,46,47]),(3,[2,4,15,22,28,46,47]),(4,[2,3,4,9,15,16,22,28,46,47]),(5,[2,3,4,9,15,16,22,28,46,47]),(6,[2,3,4,9,15,16,22,28,46,47]),(7,[2,4,15,22,28,46,47]),(8,[2,3,4,9,15,22,23,28,46,47]),(9,[2,3,4,9,15,22,23,28,46,47]),(10,[2,4,15,22,28,46,47]),(11,[2,3,4,15,22,28,29,46,47]),(12,[2,4,5,6,7,15,22,28,31,36,38,39,46,47]),(13,[2,4,6,7,15,22,28,31,36,38,39,46,47]),(14,[2,4,15,22,28,46,47]),(15,[2,4,15,22,28,46,47])],[],[(12,[(5,[36]),(2000005,[4])]),(14,[(1000001,[]),(1000003,[])])],[],[]⟩) tab_ok mixed Tryz.func146 rfl Tryz.ntmps146 (rvs:=[.cell 4 141]) Tryz.results146 rfl fun hl=>?_
 refine cast (show (let k_3:Prop:=∀ (k:Nat),True/\True;let k_2:Prop:=∃ (b:Wld×Evt),((q_e w.front.disk.notes b.1.front.disk.notes/\w.front.disk.safe=b.1.front.disk.safe/\q_h w.front.way b.1.front.way/\q_l w.disks b.1.disks/\q_g w.net b.1.net/\q_m w.ops b.1.ops/\q_k w.outs b.1.outs)/\e.kind=b.2.kind/\e.op.kind=b.2.op.kind/\e.op.who=b.2.op.who/\e.op.inn=b.2.op.inn/\e.op.code=b.2.op.code/\e.op.sec=b.2.op.sec/\e.op.fam=b.2.op.fam/\e.op.gen=b.2.op.gen/\e.at_=b.2.at_/\e.place=b.2.place/\e.keep=b.2.keep)/\tame b.1/\q_e (netW b.1 b.2).front.disk.notes (stepE w e).front.disk.notes/\(netW b.1 b.2).front.disk.safe=(stepE w e).front.disk.safe/\q_h (netW b.1 b.2).front.way (stepE w e).front.way/\q_l (netW b.1 b.2).disks (stepE w e).disks/\q_g (netW b.1 b.2).net (stepE w e).net/\q_m (netW b.1 b.2).ops (stepE w e).ops/\q_k (netW b.1 b.2).outs (stepE w e).outs;let k_1:Prop:=∃ (b:Wld×Evt),((q_e w.front.disk.notes b.1.front.disk.notes/\w.front.disk.safe=b.1.front.disk.safe/\q_h w.front.way b.1.front.way/\q_l w.disks b.1.disks/\q_g w.net b.1.net/\q_m w.ops b.1.ops/\q_k w.outs b.1.outs)/\e.kind=b.2.kind/\e.op.kind=b.2.op.kind/\e.op.who=b.2.op.who/\e.op.inn=b.2.op.inn/\e.op.code=b.2.op.code/\e.op.sec=b.2.op.sec/\e.op.fam=b.2.op.fam/\e.op.gen=b.2.op.gen/\e.at_=b.2.at_/\e.place=b.2.place/\e.keep=b.2.keep)/\tame b.1/\q_e (placeW b.1 b.2).front.disk.notes (stepE w e).front.disk.notes/\(placeW b.1 b.2).front.disk.safe=(stepE w e).front.disk.safe/\q_h (placeW b.1 b.2).front.way (stepE w e).front.way/\q_l (placeW b.1 b.2).disks (stepE w e).disks/\q_g (placeW b.1 b.2).net (stepE w e).net/\q_m (placeW b.1 b.2).ops (stepE w e).ops/\q_k (placeW b.1 b.2).outs (stepE w e).outs;((e.kind==i_1)=true->∃ (b:Wld×Opr),((q_e w.front.disk.notes b.1.front.disk.notes/\w.front.disk.safe=b.1.front.disk.safe/\q_h w.front.way b.1.front.way/\q_l w.disks b.1.disks/\q_g w.net b.1.net/\q_m w.ops b.1.ops/\q_k w.outs b.1.outs)/\e.op.kind=b.2.kind/\e.op.who=b.2.who/\e.op.inn=b.2.inn/\e.op.code=b.2.code/\e.op.sec=b.2.sec/\e.op.fam=b.2.fam/\e.op.gen=b.2.gen)/\tame b.1/\q_e (doW b.1 b.2).front.disk.notes (stepE w e).front.disk.notes/\(doW b.1 b.2).front.disk.safe=(stepE w e).front.disk.safe/\q_h (doW b.1 b.2).front.way (stepE w e).front.way/\q_l (doW b.1 b.2).disks (stepE w e).disks/\q_g (doW b.1 b.2).net (stepE w e).net/\q_m (doW b.1 b.2).ops (stepE w e).ops/\q_k (doW b.1 b.2).outs (stepE w e).outs)/\((e.kind==i_1)=false->((e.kind==i_2)=true->k_2)/\((e.kind==i_2)=false->((e.kind==i_3)=true->k_2)/\((e.kind==i_3)=false->((e.kind==i_4)=true->k_2)/\((e.kind==i_4)=false->((e.kind==i_5)=true->k_1)/\((e.kind==i_5)=false->((e.kind==i_7)=true->k_1)/\((e.kind==i_7)=false->((e.kind==i_6)=true->∃ (b:Front×Int),((q_e w.front.disk.notes b.1.disk.notes/\w.front.disk.safe=b.1.disk.safe/\cnRs (frozenRs (typ dFTx eFTxS w.front.way))=t_h b.1.way)/\e.at_=b.2)/\(((∀ (k:Nat),True/\True/\k_3/\(∀ (k:Nat),True/\True/\k_3/\True)/\True)/\True/\(∀ (k:Nat),True/\True/\True/\True/\True/\True/\True/\True/\True/\k_3/\k_3/\True)/\(∀ (k:Nat),True/\True/\True/\True/\True/\True/\True/\True/\True/\True/\True/\True)/\(∀ (k:Nat),True/\True/\True)/\True)/\True)/\(∃ (b_1:Wld×List Msg),((cnRs (frozenRs (typ dNote eNoteO (giveF b.1 b.2).1.disk.notes))=t_e b_1.1.front.disk.notes/\(giveF b.1 b.2).1.disk.safe=b_1.1.front.disk.safe/\cnRs (frozenRs (typ dFTx eFTxO (giveF b.1 b.2).1.way))=t_h b_1.1.front.way/\q_l w.disks b_1.1.disks/\q_g w.net b_1.1.net/\q_m w.ops b_1.1.ops/\q_k w.outs b_1.1.outs)/\cnRs (frozenRs (typ dMsg eMsg (giveF b.1 b.2).2.1))=t_g b_1.2)/\b_1.1.net.length<=n_1000/\(∃ (b_2:Wld×List FOut),((q_e b_1.1.front.disk.notes b_2.1.front.disk.notes/\b_1.1.front.disk.safe=b_2.1.front.disk.safe/\q_h b_1.1.front.way b_2.1.front.way/\q_l b_1.1.disks b_2.1.disks/\q_g (sendN b_1.1.net b_1.2) b_2.1.net/\q_m b_1.1.ops b_2.1.ops/\q_k b_1.1.outs b_2.1.outs)/\cnRs (frozenRs (typ dFOut eFOut (giveF b.1 b.2).2.2))=t_k b_2.2)/\b_2.1.outs.length<=n_1000/\q_e b_2.1.front.disk.notes (stepE w e).front.disk.notes/\b_2.1.front.disk.safe=(stepE w e).front.disk.safe/\q_h b_2.1.front.way (stepE w e).front.way/\q_l b_2.1.disks (stepE w e).disks/\q_g b_2.1.net (stepE w e).net/\q_m b_2.1.ops (stepE w e).ops/\q_k (outsN b_2.1.outs b_2.2) (stepE w e).outs)))/\((e.kind==i_6)=false->q_e w.front.disk.notes (stepE w e).front.disk.notes/\w.front.disk.safe=(stepE w e).front.disk.safe/\q_h w.front.way (stepE w e).front.way/\q_l w.disks (stepE w e).disks/\q_g w.net (stepE w e).net/\q_m w.ops (stepE w e).ops/\q_k w.outs (stepE w e).outs))))))))=_ by kernel_rfl) ?_
 delta i_1 i_5 i_2 i_3 i_4 n_1000 i_7 i_6 t_e q_e t_g q_g t_h q_h t_k q_k t_l t_m q_l q_m
 have a4:=hpre.nl
 have a5:=hpre.ul
 simp only [zza,zzb,true_and,and_true,and_self,ne_eq,cI_app,cWrtO_app,cWrtS_app,cWrtO_1,cItemO_1,opr_ex,zcast,frz_nil,nil_map,Option.getD_none,Option.getD_some]
 refine ⟨fun h=>?_,fun h1=>⟨fun h=>?_,fun h2=>⟨fun h=>?_,fun h3=>⟨fun h=>?_,fun h4=>⟨fun h=>?_,fun h5=>⟨fun h=>?_,fun h7=>⟨fun h=>?_,fun h6=>?_⟩⟩⟩⟩⟩⟩⟩
 all_goals simp only [stepE,if_true,if_false,false_or,or_false,true_or,or_true,and_self,and_true,hpre,true_and, *,show ¬ (2:Int)=1 by omega,show ¬ (3:Int)=1 by omega,show ¬ (3:Int)=2 by omega,show ¬ (4:Int)=1 by omega,show ¬ (4:Int)=2 by omega,show ¬ (4:Int)=3 by omega,show ¬ (5:Int)=1 by omega,show ¬ (5:Int)=2 by omega,show ¬ (5:Int)=3 by omega,show ¬ (5:Int)=4 by omega,show ¬ (7:Int)=1 by omega,show ¬ (7:Int)=2 by omega,show ¬ (7:Int)=3 by omega,show ¬ (7:Int)=4 by omega,show ¬ (7:Int)=5 by omega,show ¬ (6:Int)=1 by omega,show ¬ (6:Int)=2 by omega,show ¬ (6:Int)=3 by omega,show ¬ (6:Int)=4 by omega,show ¬ (6:Int)=5 by omega,show ¬ (6:Int)=7 by omega]
 exact ⟨by omega,by omega⟩
def spec_l7Step_c:Con Tryz.prog:=conP [.give,.lend] fun (b:Wld×Evt) h=>spec_l7Step_ok (b.1) (b.2) h
end Go.Proofs.AI
namespace Go.Proofs.AI
set_option linter.unusedVariables false
set_option linter.unusedSimpArgs false
theorem risB_iff {l:List Int}:risB l=true↔ris3 l:=by
 refine ⟨ris3_of,fun h=>?_⟩
 rcases ris3_cases h with rfl | rfl | rfl | rfl | rfl | rfl | rfl | rfl<;>decide
structure okT (ns:List Note) (t:FTx):Prop where
 tx:0<=t.tx/\t.tx<=29
 can:ris3 t.can
 know:ris3 t.know
 yes:t.yes=(ofN ns t.tx==2)
 op:t.yes=false->opOk t.op=true/\t.know=[]
structure okF (f:Front):Prop where
 fd:diskB f.disk=true
 wl:f.way.length<=30
 kd:∀ n∈f.disk.notes,n.kind=2∨n.kind=4
 ws:f.way.Pairwise fun a b=>a.tx<b.tx
 ok:∀ t∈f.way,okT f.disk.notes t
theorem adj_pw {l:List FTx} (h:∀ i,i+1<l.length->(l.getD i dFTx).tx<(l.getD (i+1) dFTx).tx):l.Pairwise fun a b=>a.tx<b.tx:=by
 have lt:∀ d i,i+d+1<l.length->(l.getD i dFTx).tx<(l.getD (i+d+1) dFTx).tx:=fun d=>by
  induction d with
  | zero=>intro i hi;exact h i hi
  | succ d ih=>intro i hi;have:=ih i (by omega);have:=h (i+d+1) (by omega);rw [show i+(d+1)+1=i+d+1+1 by omega];omega
 refine List.pairwise_iff_getElem.2 fun i j hi hj hij=>?_
 have:=lt (j-i-1) i (by omega)
 rw [show i+(j-i-1)+1=j by omega,getD_lt hi,getD_lt hj] at this
 exact this
theorem pw_at {l:List FTx} (h:l.Pairwise fun a b=>a.tx<b.tx) {i j:Nat} (hij:i<j) (hj:j<l.length):(l.getD i dFTx).tx<(l.getD j dFTx).tx:=by
 have:=List.pairwise_iff_getElem.1 h i j (by omega) hj hij
 rwa [getD_lt (by omega:i<l.length),getD_lt hj]
theorem getD_mem' {α:Type} {l:List α} {d:α} {k:Nat} (h:k<l.length):l.getD k d∈l:=by rw [getD_lt h];exact List.getElem_mem _
theorem froB_iff {f:Front}:froB f=true↔okF f:=by
 refine ⟨fun h=>?_,fun h=>?_⟩
 ·obtain ⟨g1,g2,g3,g4⟩:=froB_parts h
  have hp:∀ k,k<f.way.length->okT f.disk.notes (f.way.getD k dFTx):=fun k hk=>by
   have:=g4 k hk
   simp only [wayP,Bool.and_eq_true,Bool.or_eq_true,beq_iff_eq,decide_eq_true_eq] at this
   obtain ⟨⟨⟨⟨⟨q1,q2⟩,q3⟩,q4⟩,q5⟩,q6⟩:=this
   refine ⟨by simpa [inR] using q1,risB_iff.1 q3,risB_iff.1 q4,q5,fun hy=>?_⟩
   rcases q6 with q6 | q6
   ·rw [hy] at q6;cases q6
   ·exact ⟨q6.1,List.length_eq_zero_iff.1 q6.2⟩
  refine ⟨g1,g2,g3,adj_pw fun i hi=>?_,fun t ht=>?_⟩
  ·have:=g4 (i+1) hi
   simp only [wayP,Bool.and_eq_true,Bool.or_eq_true,beq_iff_eq,decide_eq_true_eq] at this
   rcases this.1.1.1.1.2 with h0 | h0
   ·omega
   ·simpa using h0
  ·obtain ⟨k,hk,rfl⟩:=List.getElem_of_mem ht
   have:=hp k hk
   rwa [getD_lt hk] at this
 ·simp only [froB,Bool.and_eq_true,decide_eq_true_eq,List.all_eq_true,Bool.or_eq_true,beq_iff_eq,List.mem_range]
  refine ⟨⟨⟨h.fd,h.wl⟩,h.kd⟩,fun k hk=>?_⟩
  have ht:=h.ok _ (getD_mem' (d:=dFTx) hk)
  simp only [wayP,Bool.and_eq_true,Bool.or_eq_true,beq_iff_eq,decide_eq_true_eq]
  refine ⟨⟨⟨⟨⟨by simpa [inR] using ht.tx,?_⟩,risB_iff.2 ht.can⟩,risB_iff.2 ht.know⟩,ht.yes⟩,?_⟩
  ·rcases Nat.eq_zero_or_pos k with h0 | h0
   ·exact .inl h0
   ·exact .inr (pw_at h.ws (by omega) hk)
  ·rcases Bool.eq_false_or_eq_true (f.way.getD k dFTx).yes with hy | hy
   ·exact .inl hy
   ·exact .inr ⟨(ht.op hy).1,by rw [(ht.op hy).2]<;>rfl⟩
theorem okF.small {f:Front} (h:okF f):smallF f:=froB_smallF (froB_iff.2 h)
theorem okF.at_ {f:Front} (h:okF f) {k:Nat} (hk:k<f.way.length):okT f.disk.notes (f.way.getD k dFTx):=h.ok _ (getD_mem' hk)
theorem okF.at_eq {f:Front} (h:okF f) {k:Nat} (hk:k<f.way.length):atF f.way (f.way.getD k dFTx).tx=(k:Int):=by
 refine idxOf_hit (d:=dFTx) hk (by simp) fun j hj=>?_
 have:=pw_at h.ws hj hk
 simp only [beq_eq_false_iff_ne];omega
theorem note_yes {k tx:Int} (hk:k=2∨k=3∨k=4) (h:0<=tx/\tx<=29):noteB ⟨k,tx,[],[]⟩=true:=by
 rcases hk with rfl | rfl | rfl<;>simp [noteB,inR,h]
end Go.Proofs.AI
namespace Go.Proofs.AI
open Go.RowKit Go.Proofs
set_option linter.unusedVariables false
set_option linter.unusedSimpArgs false
set_option maxRecDepth 100000
theorem CmpNaN_ok (x:Int):FunOK Tryz.prog 215 1 [] [(0,kI x)] (·=[(1,kB false)]):=by
 refine fun_to (E:=⟨tab,ctOf [],6,[],[(0,[0]),(1,[2])],[],[],[],[]⟩) tab_ok mixed Tryz.func215 rfl Tryz.ntmps215 (rvs:=[.tmp 2]) Tryz.results215 rfl fun hl=>?_
 refine cast (show ((x != x)=false)=_ by kernel_rfl) ?_
 simp
def CmpNaN_c:Con Tryz.prog:=con0 [.lend] fun b:Int=>CmpNaN_ok b
theorem CmpLess_ok (x:Int) (y:Int):FunOK Tryz.prog 199 2 [] [(0,kI x),(1,kI y)] (·=[(2,kB (decide (x<y)))]):=by
 refine fun_to (E:=⟨tab,ctOf [CmpNaN_c],17,[],[(0,[0,1]),(1,[4])],[],[],[],[]⟩) tab_ok mixed Tryz.func199 rfl Tryz.ntmps199 (rvs:=[.tmp 4]) Tryz.results199 rfl fun hl=>?_
 refine cast (show (∃ (b:Int),x=b/\(false=true->∃ (b:Int),y=b/\((!false)=false->decide (x<y)=decide (x<y))/\((!false)=true->true=decide (x<y)))/\(false=false->decide (x<y)=decide (x<y)))=_ by kernel_rfl) ?_
 simp
def CmpLess_c:Con Tryz.prog:=con0 [.lend,.lend] fun b:Int×Int=>CmpLess_ok (b.1) (b.2)
theorem SlNaN_ok (x:Int):FunOK Tryz.prog 200 1 [] [(0,kI x)] (·=[(1,kB false)]):=by
 refine fun_to (E:=⟨tab,ctOf [],6,[],[(0,[0]),(1,[2])],[],[],[],[]⟩) tab_ok mixed Tryz.func200 rfl Tryz.ntmps200 (rvs:=[.tmp 2]) Tryz.results200 rfl fun hl=>?_
 refine cast (show ((x != x)=false)=_ by kernel_rfl) ?_
 simp
def SlNaN_c:Con Tryz.prog:=con0 [.lend] fun b:Int=>SlNaN_ok b
def posI (l:List Int) (x:Int):Nat:=(l.takeWhile fun y=>decide (y<x)).length
def hitI (l:List Int) (x:Int):Bool:=decide (posI l x<l.length)&&l.getD (posI l x) 0==x
theorem posI_lt {l:List Int} (hs:l.Pairwise (·<·)) {x:Int} {h:Nat} (hh:h<l.length):l.getD h 0<x↔h<posI l x:=by
 induction l generalizing h with
 | nil=>simp at hh
 | cons a l ih =>
  simp only [List.pairwise_cons] at hs
  simp only [posI,List.takeWhile_cons]
  by_cases ha:a<x
  ·rw [if_pos (by simpa using ha)]
   cases h with
   | zero=>simpa using ha
   | succ h =>
    have:=ih hs.2 (h:=h) (by simpa using hh)
    simp only [posI] at this
    simp only [List.getD_cons_succ,List.length_cons,Nat.add_lt_add_iff_right]
    exact this
  ·rw [if_neg (by simpa using ha)]
   simp only [List.length_nil,Nat.not_lt_zero,iff_false]
   cases h with
   | zero=>simpa using ha
   | succ h =>
    have hh:h<l.length:=by simpa using hh
    have:=hs.1 (l.getD h 0) (by rw [getD_lt hh];exact List.getElem_mem _)
    simp only [List.getD_cons_succ];omega
theorem posI_le (l:List Int) (x:Int):posI l x<=l.length:=by
 simp only [posI]
 exact (List.takeWhile_prefix _).length_le
theorem BinInt_ok (l:List Int) (t:Int) (hpre:l.Pairwise (·<·)/\l.length<=1000):FunOK Tryz.prog 168 2 [] [(0,k1 (sI l)),(1,kI t)] (·=[(2,⟨.tup [(false,1),(false,1)],[.c (.n .i64 (posI l t)),.c (.b (hitI l t))],[]⟩)]):=by
 refine fun_to (E:=⟨tab,ctOf [CmpLess_c,SlNaN_c],54,[],[(0,[0,1]),(1,[0,1,6]),(2,[0,1,6,7,8]),(3,[0,1,6,7,8,15]),(4,[0,1,6,7,8,9]),(5,[0,1,6,7,8,9,27]),(6,[0,1,6,7,8]),(7,[0,1,6,7,8]),(8,[4,5])],[(0,⟨Int×Int,fun x=>[(0,(k1 (.sh 3 (typ (0:Int) eI l)))),(1,(k1 (.n .i64 t))),(6,(k1 (.n .i64 ((↑l.length:Int))))),(7,(k1 (.n .i64 (x.1)))),(8,(k1 (.n .i64 (x.2))))]⟩)],[],[],[]⟩) tab_ok mixed Tryz.func168 rfl Tryz.ntmps168 (rvs:=[.tmp 4,.tmp 5]) Tryz.results168 rfl fun hl=>?_
 refine cast (show (let k_1:Prop:=zi l.length=zi l.length;∃ (pre:Int×Int->Prop),∃ (μ:Int×Int->Nat),∃ (x0:Int×Int),(q_I l l/\t=t/\k_1/\i_0=x0.1/\zi l.length=x0.2)/\pre x0/\(∀ (x:Int×Int),let k_2:Prop:=x.1=(zi (posI l t))/\false=hitI l t;pre x->(decide (x.1<x.2)=true->i_0<=i_1/\(i_0<=wr_ ((IntKind.u64.wrap (wr_ (x.1+x.2))).fdiv (i_2 ^ min (Int.toNat i_1) IntKind.u64.bits))/\wr_ ((IntKind.u64.wrap (wr_ (x.1+x.2))).fdiv (i_2 ^ min (Int.toNat i_1) IntKind.u64.bits))<zi l.length)/\(∃ (b:Int×Int),(l.getD (wr_ ((IntKind.u64.wrap (wr_ (x.1+x.2))).fdiv (i_2 ^ min (Int.toNat i_1) IntKind.u64.bits))).toNat i_0=b.1/\t=b.2)/\(decide (b.1<b.2)=true->∃ (y:Int×Int),(q_I l l/\t=t/\k_1/\wr_ (wr_ ((IntKind.u64.wrap (wr_ (x.1+x.2))).fdiv (i_2 ^ min (Int.toNat i_1) IntKind.u64.bits))+i_1)=y.1/\x.2=y.2)/\pre y/\μ y<μ x)/\(decide (b.1<b.2)=false->∃ (y:Int×Int),(q_I l l/\t=t/\k_1/\x.1=y.1/\wr_ ((IntKind.u64.wrap (wr_ (x.1+x.2))).fdiv (i_2 ^ min (Int.toNat i_1) IntKind.u64.bits))=y.2)/\pre y/\μ y<μ x)))/\(decide (x.1<x.2)=false->(decide (x.1<zi l.length)=true->(i_0<=x.1/\x.1<zi l.length)/\((l.getD x.1.toNat i_0==t)=false->(i_0<=x.1/\x.1<zi l.length)/\(∃ (b:Int),l.getD x.1.toNat i_0=b/\(false=true->∃ (b:Int),t=b/\k_2)/\(false=false->k_2)))/\((l.getD x.1.toNat i_0==t)=true->x.1=(zi (posI l t))/\true=hitI l t))/\(decide (x.1<zi l.length)=false->k_2))))=_ by kernel_rfl) ?_
 delta i_0 i_1 i_2 wr_ zi t_I q_I
 simp only [zza,zzb,true_and,and_true,and_self,ne_eq,cI_app,cWrtO_app,cWrtS_app,cWrtO_1,cItemO_1,opr_ex,zcast,frz_nil,nil_map,Option.getD_none,Option.getD_some]
 obtain ⟨p1,p2⟩:=hpre
 have hp0:=posI_le l t
 refine ⟨fun x=>∃ i j:Nat,x=((i:Int),(j:Int))/\i<=posI l t/\posI l t<=j/\j<=l.length,⟨0,l.length,rfl,by omega,hp0,by omega⟩,fun x=>(x.2-x.1).toNat,fun a b hp=>?_⟩
 obtain ⟨i,j,h0,h1,h2,h3⟩:=hp
 cases h0
 rw [half_eq (by omega) (by omega)]
 refine ⟨fun hlt=>?_,fun hge=>?_⟩
 ·have hm:(i+j) / 2<j:=by omega
  obtain ⟨m,hmm⟩:∃ m,m=(i+j) / 2:=⟨_,rfl⟩
  rw [<- hmm] at hm ⊢
  rw [wrapN (by omega)]
  have hpl:=posI_lt p1 (x:=t) (show m<l.length by omega)
  refine ⟨by omega,by omega,by omega,fun hc=>?_,fun hc=>?_⟩
  ·have:=hpl.1 hc
   exact ⟨⟨m+1,j,rfl,by omega,by omega,by omega⟩,by simp only;omega⟩
  ·have:=mt hpl.2 hc
   exact ⟨⟨i,m,rfl,by omega,by omega,by omega⟩,by simp only;omega⟩
 ·have hij:i=j:=by omega
  subst hij
  have hi:i=posI l t:=by omega
  rw [Int.toNat_natCast]
  refine ⟨fun hlt=>⟨by omega,hlt,fun hne=>⟨by omega,hlt,fun h=>by simp at h,fun _=>⟨by omega,?_⟩⟩,fun he=>⟨by omega,?_⟩⟩,fun hge=>⟨by omega,?_⟩⟩
  ·rw [hi] at hne;simp only [hitI,beq_eq_false_iff_ne.2 hne,Bool.and_false]
  ·rw [hi] at he;simp only [hitI,he,beq_self_eq_true,Bool.and_true];exact (decide_eq_true (by omega)).symm
  ·simp only [hitI];rw [decide_eq_false (by omega)]<;>rfl
def BinInt_c:Con Tryz.prog:=conP [.lend,.lend] fun (b:List Int×Int) h=>BinInt_ok (b.1) (b.2) h
theorem impl_put_ok (l:List Int) (t:Int) (hpre:ris3 l/\1<=t/\t<=3):FunOK Tryz.prog 131 2 [] [(0,k1 (oI l)),(1,kI t)] (·=[(2,k1 (oI (putP l t)))]):=by
 refine fun_to (E:=⟨tab,ctOf [BinInt_c,insI_c],21,[],[(0,[0,1,19,20]),(1,[0,1,5,6,19,20]),(2,[0,1,5,14,19,20]),(3,[0,4,19,20]),(4,[0,4,19,20])],[],[(3,[(1000000,[])]),(4,[(1000000,[])])],[],[]⟩) tab_ok mixed Tryz.func131 rfl Tryz.ntmps131 (rvs:=[.tmp 4]) Tryz.results131 rfl fun hl=>?_
 refine cast (show (∃ (b:List Int×Int),(cnRs (frozenRs (typ i_0 eI l))=t_I b.1/\t=b.2)/\(List.Pairwise (fun (x1 x2:Int)=>x1<x2) b.1/\b.1.length<=n_1000)/\((!hitI b.1 b.2)=true->∃ (b_1:y_6),(q_I l b_1.1/\(zi (posI b.1 b.2))=zi b_1.2.1/\cnRs (typ i_0 (fun (y:Int)=>[cn_ y]) [t])=cnRs (raw [[cn_ b_1.2.2]]))/\(b_1.2.1<=b_1.1.length/\b_1.1.length<=n_1000)/\q_I (b_1.1.insertIdx b_1.2.1 b_1.2.2) (putP l t))/\((!hitI b.1 b.2)=false->q_I l (putP l t)))=_ by kernel_rfl) ?_
 delta i_0 zi t_I q_I n_1000 cn_ y_6
 obtain ⟨p1,p2,p3⟩:=hpre
 have hl:=ris3_len p1
 simp only [zza,zzb,true_and,and_true,and_self,ne_eq,cI_app,cWrtO_app,cWrtS_app,cWrtO_1,cItemO_1,opr_ex,zcast,frz_nil,nil_map,Option.getD_none,Option.getD_some]
 refine ⟨p1.1,by omega,?_⟩
 have:t=1∨t=2∨t=3:=by omega
 rcases ris3_cases p1 with rfl | rfl | rfl | rfl | rfl | rfl | rfl | rfl<;>rcases this with rfl | rfl | rfl
 all_goals refine ⟨fun h=>?_,fun h=>?_⟩
 all_goals first
  | exact absurd h (by decide)
  | exact ⟨1,rfl,by decide,by decide,by decide⟩
  | exact ⟨2,rfl,by decide,by decide,by decide⟩
  | exact ⟨3,rfl,by decide,by decide,by decide⟩
  | decide
def impl_put_c:Con Tryz.prog:=conP [.give,.lend] fun (b:List Int×Int) h=>impl_put_ok (b.1) (b.2) h
end Go.Proofs.AI
namespace Go.Proofs.AI
open Go.RowKit Go.Proofs
set_option linter.unusedVariables false
set_option linter.unusedSimpArgs false
set_option maxRecDepth 100000
theorem eqB_comm (x y:ByteArray):eqB x y=eqB y x:=by
 unfold eqB
 exact BEq.comm
theorem memB_any (l:List ByteArray) (k:ByteArray):(l.any fun x=>eqB k x)=memB l k:=by
 simp only [memB]
 congr 1
 funext x
 exact eqB_comm k x
theorem impl_MsgOk_ok (m:Msg):FunOK Tryz.prog 45 1 [] [(0,kMsg m)] (·=[(1,kB (msgB m))]):=by
 refine fun_to (E:=⟨tab,ctOf [impl_OpOk_c,impl_isTx_c,impl_in_c,impl_isService_c],46,[],[(0,[1]),(1,[1,3,4]),(2,[1,3,4,12]),(3,[1,3,4]),(4,[1,3,4,5]),(5,[1,3,4,5,23]),(6,[1,3,4,5]),(7,[2])],[],[],[],[]⟩) tab_ok mixed Tryz.func45 rfl Tryz.ntmps45 (rvs:=[.tmp 2]) Tryz.results45 rfl fun hl=>?_
 refine cast (show (let k_3:Prop:=(m.to==i_0)=false->false=msgB m;let k_2:Prop:=(m.frm==i_0)=false->false=msgB m;let k_1:Prop:=∃ (b:Int),m.tx=b/\(inR b i_0 i_29=true->(if false=true then !(m.op.kind==i_0&&(m.op.who==i_0&&(m.op.inn==i_0&&(m.op.code==i_0&&(m.op.sec==i_0&&(m.op.fam==i_0&&m.op.gen==i_0)))))) else m.op.kind==i_0&&(m.op.who==i_0&&(m.op.inn==i_0&&(m.op.code==i_0&&(m.op.sec==i_0&&(m.op.fam==i_0&&m.op.gen==i_0))))))=msgB m)/\(inR b i_0 i_29=false->false=msgB m);∃ (b:Int×Int×Int),(m.kind=b.1/\i_4=b.2.1/\i_7=b.2.2)/\(inR b.1 b.2.1 b.2.2=true->((m.kind==i_1)=true->∃ (b:Opr),(m.op.kind=b.kind/\m.op.who=b.who/\m.op.inn=b.inn/\m.op.code=b.code/\m.op.sec=b.sec/\m.op.fam=b.fam/\m.op.gen=b.gen)/\(∃ (b_1:Int×Int×Int),(m.kind=b_1.1/\i_1=b_1.2.1/\i_7=b_1.2.2)/\(inR b_1.1 b_1.2.1 b_1.2.2=true->∃ (b_2:Int),m.frm=b_2/\(inR b_2 i_1 i_3=true->((m.to==i_0)=true->∃ (b_3:Int),m.tx=b_3/\(inR b_3 i_0 i_29=true->opOk b=msgB m)/\(inR b_3 i_0 i_29=false->false=msgB m))/\k_3)/\(inR b_2 i_1 i_3=false->false=msgB m))/\(inR b_1.1 b_1.2.1 b_1.2.2=false->false=msgB m)))/\((m.kind==i_1)=false->∃ (b:Int×Int×Int),(m.kind=b.1/\i_1=b.2.1/\i_7=b.2.2)/\(inR b.1 b.2.1 b.2.2=true->∃ (b:Int),m.frm=b/\(inR b i_1 i_3=true->((m.to==i_0)=true->k_1)/\k_3)/\(inR b i_1 i_3=false->false=msgB m))/\(inR b.1 b.2.1 b.2.2=false->false=msgB m)))/\(inR b.1 b.2.1 b.2.2=false->((m.kind==i_1)=true->∃ (b:Opr),(m.op.kind=b.kind/\m.op.who=b.who/\m.op.inn=b.inn/\m.op.code=b.code/\m.op.sec=b.sec/\m.op.fam=b.fam/\m.op.gen=b.gen)/\(∃ (b_1:Int×Int×Int),(m.kind=b_1.1/\i_1=b_1.2.1/\i_7=b_1.2.2)/\(inR b_1.1 b_1.2.1 b_1.2.2=true->∃ (b_2:Int),m.to=b_2/\(inR b_2 i_1 i_3=true->((m.frm==i_0)=true->∃ (b_3:Int),m.tx=b_3/\(inR b_3 i_0 i_29=true->opOk b=msgB m)/\(inR b_3 i_0 i_29=false->false=msgB m))/\k_2)/\(inR b_2 i_1 i_3=false->false=msgB m))/\(inR b_1.1 b_1.2.1 b_1.2.2=false->false=msgB m)))/\((m.kind==i_1)=false->∃ (b:Int×Int×Int),(m.kind=b.1/\i_1=b.2.1/\i_7=b.2.2)/\(inR b.1 b.2.1 b.2.2=true->∃ (b:Int),m.to=b/\(inR b i_1 i_3=true->((m.frm==i_0)=true->k_1)/\k_2)/\(inR b i_1 i_3=false->false=msgB m))/\(inR b.1 b.2.1 b.2.2=false->false=msgB m))))=_ by kernel_rfl) ?_
 delta i_0 i_1 i_3 i_4 i_7 i_29
 simp only [zza,zzb,true_and,and_true,and_self,ne_eq,cI_app,cWrtO_app,cWrtS_app,cWrtO_1,cItemO_1,opr_ex,zcast,frz_nil,nil_map,Option.getD_none,Option.getD_some,opr_dz,Bool.false_eq_true,if_false]
 repeat' first | (with_reducible apply And.intro) | (with_reducible intro h)
 all_goals (rw [Bool.eq_iff_iff];simp_all [msgB,inR];try omega)
 all_goals (intro _ _ _;split<;>omega)
def impl_MsgOk_c:Con Tryz.prog:=con0 [.lend] fun b:Msg=>impl_MsgOk_ok b
theorem KeyBad_ok (s:ByteArray):FunOK Tryz.prog 153 1 [] [(0,kS s)] (·=[(1,kB (!keyB s))]):=by
 refine fun_to (E:=⟨tab,ctOf [impl_keyOk_c],6,[],[(0,[0]),(1,[2])],[],[],[],[]⟩) tab_ok mixed Tryz.func153 rfl Tryz.ntmps153 (rvs:=[.tmp 2]) Tryz.results153 rfl fun hl=>?_
 refine cast (show (∃ (b:ByteArray),s=b/\(!keyB b)=!keyB s)=_ by kernel_rfl) ?_
 simp only [zza,zzb,true_and,and_true,and_self,ne_eq,cI_app,cWrtO_app,cWrtS_app,cWrtO_1,cItemO_1,opr_ex,zcast,frz_nil,nil_map,Option.getD_none,Option.getD_some]
 done
def KeyBad_c:Con Tryz.prog:=con0 [.lend] fun b:ByteArray=>KeyBad_ok b
theorem IndexKey_ok (xs:List ByteArray):FunOK Tryz.prog 193 2 [] [(0,k1 (sS xs)),(1,kF 153)] (·=[(2,kI (idxOf (fun w=>!keyB w) xs))]):=by
 refine fun_to (E:=⟨tab,ctOf [KeyBad_c],19,[],[(0,[0,1]),(1,[0,1,7,8]),(2,[0,1,7,8,9]),(3,[0,1,5,7,8]),(4,[0,1,5,7,8,16]),(5,[4]),(6,[0,1,7,8]),(7,[4])],[(0,⟨Nat,fun x=>[(0,(k1 (.sh 9 (typ ByteArray.empty eS xs)))),(1,(k1 (.vl (Value.func (Fn.func (153:FuncId)) { toList:=[] } { toList:=[] })))),(7,(k1 (.n .i64 ((↑xs.length:Int))))),(8,(k1 (.n .i64 (x:Int))))]⟩)],[],[],[]⟩) tab_ok mixed Tryz.func193 rfl Tryz.ntmps193 (rvs:=[.tmp 4]) Tryz.results193 rfl fun hl=>?_
 refine cast (show (let k_1:Prop:=Value.func (Fn.func (153:FuncId)) { toList:=[] } { toList:=[] }=Value.func (Fn.func (153:FuncId)) { toList:=[] } { toList:=[] };∃ (pre:Nat->Prop),∃ (μ:Nat->Nat),∃ (x0:Nat),(q_S xs xs/\k_1/\zi xs.length=zi xs.length/\i_0=zi x0)/\pre x0/\(∀ (x:Nat),pre x->(decide (zi x<zi xs.length)=true->(i_0<=zi x/\zi x<zi xs.length)/\(∃ (b:ByteArray),g_ByteArray xs x=b/\((!keyB b)=true->zi x=idxOf (fun (w:ByteArray)=>!keyB w) xs)/\((!keyB b)=false->∃ (y:Nat),(q_S xs xs/\k_1/\zi xs.length=zi xs.length/\wr_ ((zi x)+i_1)=zi y)/\pre y/\μ y<μ x)))/\(decide (zi x<zi xs.length)=false->(-1:Int)=idxOf (fun (w:ByteArray)=>!keyB w) xs)))=_ by kernel_rfl) ?_
 delta i_0 i_1 wr_ zi t_S q_S g_ByteArray
 have hx:xs.length<=9223372036854775807:=hl.1 _ (List.mem_singleton.2 rfl)
 simp only [zza,zzb,true_and,and_true,and_self,ne_eq,cI_app,cWrtO_app,cWrtS_app,cWrtO_1,cItemO_1,opr_ex,zcast,frz_nil,nil_map,Option.getD_none,Option.getD_some]
 refine ⟨fun i=>i<=xs.length/\∀ j,j<i->(!keyB (xs.getD j ByteArray.empty))=false,⟨by simp,fun j hj=>absurd hj (Nat.not_lt_zero _)⟩,fun i=>xs.length-i,fun i hi=>?_⟩
 obtain ⟨h1,h2⟩:=hi
 refine ⟨fun hlt=>⟨by omega,by omega,fun hp=>?_,fun hp=>⟨i+1,wrapN (by omega),⟨by omega,below_succ h2 (by simpa using hp)⟩,by simp only;omega⟩⟩,fun hge=>?_⟩
 ·exact (idx_hit (p:=fun w=>!keyB w) (d:=ByteArray.empty) (by omega) (by simpa using hp) h2).symm
 ·exact (idx_miss (p:=fun w=>!keyB w) (d:=ByteArray.empty) fun j hj=>h2 j (by omega)).symm
def IndexKey_c:Con Tryz.prog:=con0 [.lend,.lend] fun b:List ByteArray=>IndexKey_ok b
theorem ContainsKey_ok (xs:List ByteArray):FunOK Tryz.prog 152 2 [] [(0,k1 (sS xs)),(1,kF 153)] (·=[(2,kB (xs.any fun w=>!keyB w))]):=by
 refine fun_to (E:=⟨tab,ctOf [IndexKey_c],9,[],[(0,[0,1]),(1,[4])],[],[],[],[]⟩) tab_ok mixed Tryz.func152 rfl Tryz.ntmps152 (rvs:=[.tmp 4]) Tryz.results152 rfl fun hl=>?_
 refine cast (show (∃ (b:List ByteArray),(q_S xs b/\Value.func (Fn.func (153:FuncId)) { toList:=[] } { toList:=[] }=Value.func (Fn.func (153:FuncId)) { toList:=[] } { toList:=[] })/\decide (idxOf (fun (w:ByteArray)=>!keyB w) b≥i_0)=xs.any fun (w:ByteArray)=>!keyB w)=_ by kernel_rfl) ?_
 delta i_0 t_S q_S
 simp only [zza,zzb,true_and,and_true,and_self,ne_eq,cI_app,cWrtO_app,cWrtS_app,cWrtO_1,cItemO_1,opr_ex,zcast,frz_nil,nil_map,Option.getD_none,Option.getD_some]
 exact idx_ge _ _
def ContainsKey_c:Con Tryz.prog:=con0 [.lend,.lend] fun b:List ByteArray=>ContainsKey_ok b
theorem IndexS_ok (xs:List ByteArray) (z:ByteArray):FunOK Tryz.prog 195 2 [] [(0,k1 (sS xs)),(1,kS z)] (·=[(2,kI (idxOf (fun x=>eqB z x) xs))]):=by
 refine fun_to (E:=⟨tab,ctOf [],19,[],[(0,[0,1]),(1,[0,1,7,8]),(2,[0,1,7,8,9]),(3,[0,1,5,7,8]),(4,[0,1,5,7,8,16]),(5,[4]),(6,[0,1,7,8]),(7,[4])],[(0,⟨Nat,fun x=>[(0,(k1 (.sh 9 (typ ByteArray.empty eS xs)))),(1,(k1 (.s z))),(7,(k1 (.n .i64 ((↑xs.length:Int))))),(8,(k1 (.n .i64 (x:Int))))]⟩)],[],[],[]⟩) tab_ok mixed Tryz.func195 rfl Tryz.ntmps195 (rvs:=[.tmp 4]) Tryz.results195 rfl fun hl=>?_
 refine cast (show (∃ (pre:Nat->Prop),∃ (μ:Nat->Nat),∃ (x0:Nat),(q_S xs xs/\z=z/\zi xs.length=zi xs.length/\i_0=zi x0)/\pre x0/\∀ (x:Nat),pre x->(decide (zi x<zi xs.length)=true->(i_0<=zi x/\zi x<zi xs.length)/\((z.toList==(g_ByteArray xs x).toList)=true->zi x=idxOf (fun (x:ByteArray)=>eqB z x) xs)/\((z.toList==(g_ByteArray xs x).toList)=false->∃ (y:Nat),(q_S xs xs/\z=z/\zi xs.length=zi xs.length/\wr_ ((zi x)+i_1)=zi y)/\pre y/\μ y<μ x))/\(decide (zi x<zi xs.length)=false->(-1:Int)=idxOf (fun (x:ByteArray)=>eqB z x) xs))=_ by kernel_rfl) ?_
 delta i_0 i_1 wr_ zi t_S q_S g_ByteArray
 have hx:xs.length<=9223372036854775807:=hl.1 _ (List.mem_singleton.2 rfl)
 simp only [zza,zzb,true_and,and_true,and_self,ne_eq,cI_app,cWrtO_app,cWrtS_app,cWrtO_1,cItemO_1,opr_ex,zcast,frz_nil,nil_map,Option.getD_none,Option.getD_some]
 refine ⟨fun i=>i<=xs.length/\∀ j,j<i->eqB z (xs.getD j ByteArray.empty)=false,⟨by simp,fun j hj=>absurd hj (Nat.not_lt_zero _)⟩,fun i=>xs.length-i,fun i hi=>?_⟩
 obtain ⟨h1,h2⟩:=hi
 refine ⟨fun hlt=>⟨by omega,by omega,fun hp=>?_,fun hp=>⟨i+1,wrapN (by omega),⟨by omega,below_succ h2 (by simpa [eqB] using hp)⟩,by simp only;omega⟩⟩,fun hge=>?_⟩
 ·exact (idx_hit (p:=fun x=>eqB z x) (d:=ByteArray.empty) (by omega) (by simpa [eqB] using hp) h2).symm
 ·exact (idx_miss (p:=fun x=>eqB z x) (d:=ByteArray.empty) fun j hj=>h2 j (by omega)).symm
def IndexS_c:Con Tryz.prog:=con0 [.lend,.lend] fun b:List ByteArray×ByteArray=>IndexS_ok (b.1) (b.2)
theorem ContainsS_ok (xs:List ByteArray) (z:ByteArray):FunOK Tryz.prog 156 2 [] [(0,k1 (sS xs)),(1,kS z)] (·=[(2,kB (memB xs z))]):=by
 refine fun_to (E:=⟨tab,ctOf [IndexS_c],9,[],[(0,[0,1]),(1,[4])],[],[],[],[]⟩) tab_ok mixed Tryz.func156 rfl Tryz.ntmps156 (rvs:=[.tmp 4]) Tryz.results156 rfl fun hl=>?_
 refine cast (show (∃ (b:y_11),(q_S xs b.1/\z=b.2)/\decide (idxOf (fun (x:ByteArray)=>eqB b.2 x) b.1≥i_0)=memB xs z)=_ by kernel_rfl) ?_
 delta i_0 t_S q_S y_11
 simp only [zza,zzb,true_and,and_true,and_self,ne_eq,cI_app,cWrtO_app,cWrtS_app,cWrtO_1,cItemO_1,opr_ex,zcast,frz_nil,nil_map,Option.getD_none,Option.getD_some]
 rw [<- memB_any]
 exact idx_ge _ _
def ContainsS_c:Con Tryz.prog:=con0 [.lend,.lend] fun b:List ByteArray×ByteArray=>ContainsS_ok (b.1) (b.2)
theorem WrtBadN_ok (w:Wrt) (n:Note):FunOK Tryz.prog 155 2 [] [(0,kWrt w),(1,k1 (.rp [.n .i64 n.kind,.n .i64 n.tx,sS n.locks,sWrts n.writes]))] (·=[(2,kB (!(wrtB w&&memB n.locks w.key)))]):=by
 refine fun_to (E:=⟨tab,ctOf [impl_WrtOk_c,ContainsS_c],15,[],[(0,[1,2]),(1,[3])],[],[],[],[]⟩) tab_ok mixed Tryz.func155 rfl Tryz.ntmps155 (rvs:=[.tmp 3]) Tryz.results155 rfl fun hl=>?_
 refine cast (show (∃ (b:Wrt),(w.key=b.key/\w.del=b.del/\q_I w.val b.val)/\((!wrtB b)=false->∃ (b:y_11),(q_S n.locks b.1/\w.key=b.2)/\(!memB b.1 b.2)=!(wrtB w&&memB n.locks w.key))/\((!wrtB b)=true->true=!(wrtB w&&memB n.locks w.key)))=_ by kernel_rfl) ?_
 delta t_I q_I t_S q_S y_11
 simp only [zza,zzb,true_and,and_true,and_self,ne_eq,cI_app,cWrtO_app,cWrtS_app,cWrtO_1,cItemO_1,opr_ex,zcast,frz_nil,nil_map,Option.getD_none,Option.getD_some]
 cases wrtB w<;>simp
def WrtBadN_c:Con Tryz.prog:=con0 [.lend] fun b:Wrt×Note=>WrtBadN_ok (b.1) (b.2)
theorem IndexWrtN_ok (ws:List Wrt) (n:Note):FunOK Tryz.prog 194 2 [] [(0,k1 (sWrts ws)),(1,k1 (.fn 155 [.rp [.n .i64 n.kind,.n .i64 n.tx,sS n.locks,sWrts n.writes]]))] (·=[(2,kI (idxOf (fun w=>!(wrtB w&&memB n.locks w.key)) ws))]):=by
 refine fun_to (E:=⟨tab,ctOf [WrtBadN_c],19,[],[(0,[0,1]),(1,[0,1,7,8]),(2,[0,1,7,8,9]),(3,[0,1,5,7,8]),(4,[0,1,5,7,8,16]),(5,[4]),(6,[0,1,7,8]),(7,[4])],[(0,⟨Nat,fun x=>[(0,(k1 (.sh 102 (typ dWrt eWrtS ws)))),(1,(k1 (.fn 155 ([CV.rp [CV.n .i64 n.kind,CV.n .i64 n.tx,CV.sh (9:Nat) (typ ByteArray.empty eS n.locks),CV.sh (102:Nat) (typ dWrt eWrtS n.writes)]])))),(7,(k1 (.n .i64 ((↑ws.length:Int))))),(8,(k1 (.n .i64 (x:Int))))]⟩)],[],[],[]⟩) tab_ok mixed Tryz.func194 rfl Tryz.ntmps194 (rvs:=[.tmp 4]) Tryz.results194 rfl fun hl=>?_
 refine cast (show (let k_1:Prop:=cnR [CV.rp [cn_ n.kind,cn_ n.tx,CV.sh n_9 (typ ByteArray.empty eS n.locks),CV.sh n_102 (typ dWrt eWrtS n.writes)]]=cnR [CV.rp [cn_ n.kind,cn_ n.tx,CV.sh n_9 (typ ByteArray.empty eS n.locks),CV.sh n_102 (typ dWrt eWrtS n.writes)]];∃ (pre:Nat->Prop),∃ (μ:Nat->Nat),∃ (x0:Nat),(q_c ws ws/\k_1/\zi ws.length=zi ws.length/\i_0=zi x0)/\pre x0/\(∀ (x:Nat),pre x->(decide (zi x<zi ws.length)=true->(i_0<=zi x/\zi x<zi ws.length)/\(∃ (b:Wrt×Note),(((g_Wrt ws x).key=b.1.key/\(g_Wrt ws x).del=b.1.del/\q_I (g_Wrt ws x).val b.1.val)/\cnR [cn_ n.kind,cn_ n.tx,CV.sh n_9 (typ ByteArray.empty eS n.locks),CV.sh n_102 (typ dWrt eWrtS n.writes)]=cnR [cn_ b.2.kind,cn_ b.2.tx,CV.sh n_9 (typ ByteArray.empty eS b.2.locks),CV.sh n_102 (typ dWrt eWrtS b.2.writes)])/\((!(wrtB b.1&&memB b.2.locks b.1.key))=true->zi x=idxOf (fun (w:Wrt)=>!(wrtB w&&memB n.locks w.key)) ws)/\((!(wrtB b.1&&memB b.2.locks b.1.key))=false->∃ (y:Nat),(q_c ws ws/\k_1/\zi ws.length=zi ws.length/\wr_ ((zi x)+i_1)=zi y)/\pre y/\μ y<μ x)))/\(decide (zi x<zi ws.length)=false->(-1:Int)=idxOf (fun (w:Wrt)=>!(wrtB w&&memB n.locks w.key)) ws)))=_ by kernel_rfl) ?_
 delta i_0 i_1 wr_ zi t_I q_I g_Wrt t_c q_c cn_ n_9 n_102
 have hx:ws.length<=9223372036854775807:=hl.1 _ (List.mem_singleton.2 rfl)
 simp only [zza,zzb,true_and,and_true,and_self,ne_eq,cI_app,cWrtO_app,cWrtS_app,cWrtO_1,cItemO_1,opr_ex,zcast,frz_nil,nil_map,Option.getD_none,Option.getD_some]
 refine ⟨fun i=>i<=ws.length/\∀ j,j<i->(!(wrtB (ws.getD j dWrt)&&memB n.locks (ws.getD j dWrt).key))=false,⟨by simp,fun j hj=>absurd hj (Nat.not_lt_zero _)⟩,fun i=>ws.length-i,fun i hi=>?_⟩
 obtain ⟨h1,h2⟩:=hi
 refine ⟨fun hlt=>⟨by omega,hlt,n,rfl,fun hp=>?_,fun hp=>⟨i+1,wrapN (by omega),⟨by omega,below_succ h2 hp⟩,by simp only;omega⟩⟩,fun hge=>?_⟩
 ·exact (idx_hit (p:=fun w=>!(wrtB w&&memB n.locks w.key)) (by omega) hp h2).symm
 ·exact (idx_miss (p:=fun w=>!(wrtB w&&memB n.locks w.key)) (d:=dWrt) fun j hj=>h2 j (by omega)).symm
def IndexWrtN_c:Con Tryz.prog:=con0 [.lend,.lend] fun b:List Wrt×Note=>IndexWrtN_ok (b.1) (b.2)
theorem ContainsWrtN_ok (ws:List Wrt) (n:Note):FunOK Tryz.prog 154 2 [] [(0,k1 (sWrts ws)),(1,k1 (.fn 155 [.rp [.n .i64 n.kind,.n .i64 n.tx,sS n.locks,sWrts n.writes]]))] (·=[(2,kB (ws.any fun w=>!(wrtB w&&memB n.locks w.key)))]):=by
 refine fun_to (E:=⟨tab,ctOf [],9,[],[(0,[0,1]),(1,[4])],[],[],[],[(1,[IndexWrtN_c])]⟩) tab_ok mixed Tryz.func154 rfl Tryz.ntmps154 (rvs:=[.tmp 4]) Tryz.results154 rfl fun hl=>?_
 refine cast (show (∃ (b:List Wrt×Note),(q_c ws b.1/\cnR [CV.rp [cn_ n.kind,cn_ n.tx,CV.sh n_9 (typ ByteArray.empty eS n.locks),CV.sh n_102 (typ dWrt eWrtS n.writes)]]=cnR [CV.rp [cn_ b.2.kind,cn_ b.2.tx,CV.sh n_9 (typ ByteArray.empty eS b.2.locks),CV.sh n_102 (typ dWrt eWrtS b.2.writes)]])/\decide (idxOf (fun (w:Wrt)=>!(wrtB w&&memB b.2.locks w.key)) b.1≥i_0)=ws.any fun (w:Wrt)=>!(wrtB w&&memB n.locks w.key))=_ by kernel_rfl) ?_
 delta i_0 t_c q_c cn_ n_9 n_102
 simp only [zza,zzb,true_and,and_true,and_self,ne_eq,cI_app,cWrtO_app,cWrtS_app,cWrtO_1,cItemO_1,opr_ex,zcast,frz_nil,nil_map,Option.getD_none,Option.getD_some]
 exact ⟨n,rfl,idx_ge _ _⟩
def ContainsWrtN_c:Con Tryz.prog:=con0 [.lend,.lend] fun b:List Wrt×Note=>ContainsWrtN_ok (b.1) (b.2)
theorem impl_NoteOk_ok (n:Note):FunOK Tryz.prog 114 1 [] [(0,kNoteS n)] (·=[(1,kB (noteB n))]):=by
 refine fun_to (E:=⟨tab,ctOf [impl_isTx_c,impl_in_c,ContainsKey_c],46,[],[(0,[1]),(1,[1,12]),(2,[2]),(3,[1,15]),(4,[2]),(5,[1,40]),(6,[2]),(7,[2])],[],[],[],[(7,[ContainsWrtN_c])]⟩) tab_ok mixed Tryz.func114 rfl Tryz.ntmps114 (rvs:=[.tmp 2]) Tryz.results114 rfl fun hl=>?_
 refine cast (show (∃ (b:Int),n.tx=b/\((!inR b i_0 i_29)=false->∃ (b:Int×Int×Int),(n.kind=b.1/\i_1=b.2.1/\i_4=b.2.2)/\((!inR b.1 b.2.1 b.2.2)=true->false=noteB n)/\((!inR b.1 b.2.1 b.2.2)=false->((n.kind != i_1)=true->((zi n.locks.length==i_0)=true->(zi n.writes.length==i_0)=noteB n)/\((zi n.locks.length==i_0)=false->false=noteB n))/\((n.kind != i_1)=false->(decide ((zi n.locks.length)>i_12)=false->(decide ((zi n.writes.length)>i_12)=false->∃ (b:List ByteArray),(q_S n.locks b/\Value.func (Fn.func n_153) #[] #[]=Value.func (Fn.func (153:FuncId)) { toList:=[] } { toList:=[] })/\((b.any fun (w:ByteArray)=>!keyB w)=true->false=noteB n)/\((b.any fun (w:ByteArray)=>!keyB w)=false->True/\∃ (b:List Wrt×Note),(q_c n.writes b.1/\cnR [CV.rp [cn_ n.kind,cn_ n.tx,CV.sh n_9 (typ ByteArray.empty eS n.locks),CV.sh n_102 (typ dWrt eWrtS n.writes)]]=cnR [CV.rp [cn_ b.2.kind,cn_ b.2.tx,CV.sh n_9 (typ ByteArray.empty eS b.2.locks),CV.sh n_102 (typ dWrt eWrtS b.2.writes)]])/\(!b.1.any fun (w:Wrt)=>!(wrtB w&&memB b.2.locks w.key))=noteB n))/\(decide ((zi n.writes.length)>i_12)=true->false=noteB n))/\(decide ((zi n.locks.length)>i_12)=true->false=noteB n))))/\((!inR b i_0 i_29)=true->false=noteB n))=_ by kernel_rfl) ?_
 delta i_0 i_1 i_4 zi t_c q_c cn_ t_S q_S i_29 i_12 n_9 n_102 n_153
 simp only [zza,zzb,true_and,and_true,and_self,ne_eq,cI_app,cWrtO_app,cWrtS_app,cWrtO_1,cItemO_1,opr_ex,zcast,frz_nil,nil_map,Option.getD_none,Option.getD_some]
 refine ⟨fun h1=>⟨fun h2=>?_,fun h2=>⟨fun h3=>⟨fun h4=>?_,fun h4=>?_⟩,fun h3=>⟨fun h4=>⟨fun h5=>⟨fun h6=>?_,fun h6=>⟨n,rfl,?_⟩⟩,fun h5=>?_⟩,fun h4=>?_⟩⟩⟩,fun h1=>?_⟩
 ·simp at h2;simp [noteB,h2]
 ·simp at h1 h2
  have hl:n.locks=[]:=List.length_eq_zero_iff.1 (by omega)
  by_cases hw:n.writes=[]
  ·simp [noteB,hl,hw,h1,h2]
  ·have:n.writes.length≠0:=fun h=>hw (List.length_eq_zero_iff.1 h)
   have e:((n.writes.length:Int)==0)=false:=by simp [hw]
   rw [e]
   simp [noteB,hl,h3,hw]
 ·have:n.locks≠[]:=fun h=>h4 (by simp [h])
  simp [noteB,h3,this]
 ·simp only [noteB,List.all_eq_not_any_not,h6,Bool.not_true,Bool.and_false,Bool.false_and]
 ·simp at h1 h2 h3 h4 h5
  have a1:n.locks.length<=12:=by omega
  have a2:n.writes.length<=12:=by omega
  simp only [noteB,List.all_eq_not_any_not,h6,h1,h2,h3,a1,a2,decide_true,Bool.not_false,Bool.and_true,Bool.true_and,beq_self_eq_true,Bool.true_or,show inR 1 1 4=true from rfl]
 ·have:¬ n.writes.length<=12:=by omega
  simp [noteB,this]
 ·have:¬ n.locks.length<=12:=by omega
  simp [noteB,this]
 ·simp at h1;simp [noteB,h1]
def impl_NoteOk_c:Con Tryz.prog:=con0 [.lend] fun b:Note=>impl_NoteOk_ok b
theorem NoteBad_ok (n:Note):FunOK Tryz.prog 113 1 [] [(0,kNoteS n)] (·=[(1,kB (!noteB n))]):=by
 refine fun_to (E:=⟨tab,ctOf [impl_NoteOk_c],6,[],[(0,[1]),(1,[2])],[],[],[],[]⟩) tab_ok mixed Tryz.func113 rfl Tryz.ntmps113 (rvs:=[.tmp 2]) Tryz.results113 rfl fun hl=>?_
 refine cast (show (∃ (b:Note),(n.kind=b.kind/\n.tx=b.tx/\q_S n.locks b.locks/\q_c n.writes b.writes)/\(!noteB b)=!noteB n)=_ by kernel_rfl) ?_
 delta t_c q_c t_S q_S
 simp only [zza,zzb,true_and,and_true,and_self,ne_eq,cI_app,cWrtO_app,cWrtS_app,cWrtO_1,cItemO_1,opr_ex,zcast,frz_nil,nil_map,Option.getD_none,Option.getD_some]
 done
def NoteBad_c:Con Tryz.prog:=con0 [.lend] fun b:Note=>NoteBad_ok b
end Go.Proofs.AI
namespace Go.Proofs.AI
open Go.RowKit Go.Proofs
set_option linter.unusedVariables false
set_option linter.unusedSimpArgs false
set_option maxRecDepth 100000
theorem IndexNote_ok (xs:List Note):FunOK Tryz.prog 116 2 [] [(0,k1 (sNotes xs)),(1,kF 113)] (·=[(2,kI (idxOf (fun n=>!noteB n) xs))]):=by
 refine fun_to (E:=⟨tab,ctOf [NoteBad_c],19,[],[(0,[0,1]),(1,[0,1,7,8]),(2,[0,1,7,8,9]),(3,[0,1,5,7,8]),(4,[0,1,5,7,8,16]),(5,[4]),(6,[0,1,7,8]),(7,[4])],[(0,⟨Nat,fun x=>[(0,(k1 (.sh 107 (typ dNote eNoteS xs)))),(1,(k1 (.vl (Value.func (Fn.func (113:FuncId)) { toList:=[] } { toList:=[] })))),(7,(k1 (.n .i64 ((↑xs.length:Int))))),(8,(k1 (.n .i64 (x:Int))))]⟩)],[],[],[]⟩) tab_ok mixed Tryz.func116 rfl Tryz.ntmps116 (rvs:=[.tmp 4]) Tryz.results116 rfl fun hl=>?_
 refine cast (show (let k_1:Prop:=Value.func (Fn.func (113:FuncId)) { toList:=[] } { toList:=[] }=Value.func (Fn.func (113:FuncId)) { toList:=[] } { toList:=[] };∃ (pre:Nat->Prop),∃ (μ:Nat->Nat),∃ (x0:Nat),(q_e xs xs/\k_1/\zi xs.length=zi xs.length/\i_0=zi x0)/\pre x0/\(∀ (x:Nat),pre x->(decide (zi x<zi xs.length)=true->(i_0<=zi x/\zi x<zi xs.length)/\(∃ (b:Note),((g_Note xs x).kind=b.kind/\(g_Note xs x).tx=b.tx/\q_S (g_Note xs x).locks b.locks/\q_c (g_Note xs x).writes b.writes)/\((!noteB b)=true->zi x=idxOf (fun (n:Note)=>!noteB n) xs)/\((!noteB b)=false->∃ (y:Nat),(q_e xs xs/\k_1/\zi xs.length=zi xs.length/\wr_ ((zi x)+i_1)=zi y)/\pre y/\μ y<μ x)))/\(decide (zi x<zi xs.length)=false->(-1:Int)=idxOf (fun (n:Note)=>!noteB n) xs)))=_ by kernel_rfl) ?_
 delta i_0 i_1 wr_ zi t_c q_c t_S q_S g_Note t_e q_e
 have hx:xs.length<=9223372036854775807:=hl.1 _ (List.mem_singleton.2 rfl)
 simp only [zza,zzb,true_and,and_true,and_self,ne_eq,cI_app,cWrtO_app,cWrtS_app,cWrtO_1,cItemO_1,opr_ex,zcast,frz_nil,nil_map,Option.getD_none,Option.getD_some]
 refine ⟨fun i=>i<=xs.length/\∀ j,j<i->(!noteB (xs.getD j dNote))=false,⟨by simp,fun j hj=>absurd hj (Nat.not_lt_zero _)⟩,fun i=>xs.length-i,fun i hi=>?_⟩
 obtain ⟨h1,h2⟩:=hi
 refine ⟨fun hlt=>⟨by omega,by omega,fun hp=>?_,fun hp=>⟨i+1,wrapN (by omega),⟨by omega,below_succ h2 hp⟩,by simp only;omega⟩⟩,fun hge=>?_⟩
 ·exact (idx_hit (p:=fun n=>!noteB n) (by omega) hp h2).symm
 ·exact (idx_miss (p:=fun n=>!noteB n) (d:=dNote) fun j hj=>h2 j (by omega)).symm
def IndexNote_c:Con Tryz.prog:=con0 [.lend,.lend] fun b:List Note=>IndexNote_ok b
theorem ContainsNote_ok (xs:List Note):FunOK Tryz.prog 71 2 [] [(0,k1 (sNotes xs)),(1,kF 113)] (·=[(2,kB (xs.any fun n=>!noteB n))]):=by
 refine fun_to (E:=⟨tab,ctOf [IndexNote_c],9,[],[(0,[0,1]),(1,[4])],[],[],[],[]⟩) tab_ok mixed Tryz.func71 rfl Tryz.ntmps71 (rvs:=[.tmp 4]) Tryz.results71 rfl fun hl=>?_
 refine cast (show (∃ (b:List Note),(q_e xs b/\Value.func (Fn.func (113:FuncId)) { toList:=[] } { toList:=[] }=Value.func (Fn.func (113:FuncId)) { toList:=[] } { toList:=[] })/\decide (idxOf (fun (n:Note)=>!noteB n) b≥i_0)=xs.any fun (n:Note)=>!noteB n)=_ by kernel_rfl) ?_
 delta i_0 t_e q_e
 simp only [zza,zzb,true_and,and_true,and_self,ne_eq,cI_app,cWrtO_app,cWrtS_app,cWrtO_1,cItemO_1,opr_ex,zcast,frz_nil,nil_map,Option.getD_none,Option.getD_some]
 exact idx_ge _ _
def ContainsNote_c:Con Tryz.prog:=con0 [.lend,.lend] fun b:List Note=>ContainsNote_ok b
theorem impl_DiskOk_ok (d:Disk):FunOK Tryz.prog 68 1 [] [(0,kDiskS d)] (·=[(1,kB (diskB d))]):=by
 refine fun_to (E:=⟨tab,ctOf [ContainsNote_c,impl_in_c],23,[],[(0,[1]),(1,[1,3]),(2,[2])],[],[],[],[]⟩) tab_ok mixed Tryz.func68 rfl Tryz.ntmps68 (rvs:=[.tmp 2]) Tryz.results68 rfl fun hl=>?_
 refine cast (show ((decide (zi d.notes.length<=i_120)=true->∃ (b:List Note),(q_e d.notes b/\Value.func (Fn.func n_113) #[] #[]=Value.func (Fn.func (113:FuncId)) { toList:=[] } { toList:=[] })/\((!b.any fun (n:Note)=>!noteB n)=true->∃ (b:Int×Int×Int),(d.safe=b.1/\i_0=b.2.1/\zi d.notes.length=b.2.2)/\inR b.1 b.2.1 b.2.2=diskB d)/\((!b.any fun (n:Note)=>!noteB n)=false->false=diskB d))/\(decide (zi d.notes.length<=i_120)=false->false=diskB d))=_ by kernel_rfl) ?_
 delta i_0 zi t_e q_e i_120 n_113
 simp only [zza,zzb,true_and,and_true,and_self,ne_eq,cI_app,cWrtO_app,cWrtS_app,cWrtO_1,cItemO_1,opr_ex,zcast,frz_nil,nil_map,Option.getD_none,Option.getD_some]
 refine ⟨fun h1=>⟨fun h2=>?_,fun h2=>?_⟩,fun h1=>?_⟩
 ·have a1:d.notes.length<=120:=by omega
  simp only [diskB,List.all_eq_not_any_not,h2,a1,decide_true,Bool.true_and,Bool.and_true]
 ·simp only [diskB,List.all_eq_not_any_not,h2,Bool.and_false]
 ·have a1:¬ d.notes.length<=120:=by omega
  simp only [diskB,a1,decide_false,Bool.false_and]
def impl_DiskOk_c:Con Tryz.prog:=con0 [.lend] fun b:Disk=>impl_DiskOk_ok b
end Go.Proofs.AI
namespace Go.Proofs.AI
open Go.RowKit Go.Proofs
set_option linter.unusedVariables false
set_option linter.unusedSimpArgs false
theorem rel_start {P:Program} {ins:L} (args:Array Value) (w:World) (U:Nat->Nat->Value)
  (h:∀ t K,mk ins t=some K->t<args.size/\RootAt w K (args.getD t undef) (U t) (0,0)/\K.sh≠.box/\∀ o x,K.cells[o]?=some x->∃ c,x=.c c/\Rep P w (fun b=>b<w.heap.size) c (U t o) FP.none) :
  Rel ⟨P,args.size,w,fun _ _=>False,fun b=>b<w.heap.size,[],#[]⟩ (mk ins) ⟨args,[]⟩ w:=by
 refine ⟨fun b=>b<w.heap.size,U,fun _=>(0,0),fun _=>FP.none,⟨rfl,rfl,fun t K hK=>?_,fun _ _ _ h=>h.elim,fun _ _ h=>h.elim,fun _ _ h=>h.elim,fun _ h=>h,fun _ h=>h,fun _ h=>.inl h,Fr.refl _ _⟩⟩
 obtain ⟨h1,h2,h3,h4⟩:=h t K hK
 refine ⟨h1,⟨h2,⟨fun _=>FP.none,fun o x hx=>?_,fun _ _ _ h=>h.elim,fun _ _ h=>h.elim⟩,fun b hb=>(h3 hb.1).elim⟩⟩
 obtain ⟨c,rfl,hr⟩:=h4 o x hx
 exact hr
theorem FunOK.bool {P:Program} {f:FuncId} {fn:Func} {c:Code} (hf:P.funcs[f]?=some fn) (hb:fn.body=some c) (hn:(fn.name=="runtime.NumGoroutine")=false) {ins:L} {m:Nat} {b:Bool}
  (hF:FunOK P f m [] ins (·=[(m,⟨.one,[.c (.b b)],[]⟩)])) (args:Array Value) (hs:args.size=m) (w:World) (hr:Rel ⟨P,m,w,fun _ _=>False,fun b=>b<w.heap.size,[],#[]⟩ (mk ins) ⟨args,[]⟩ w) :
  Calls P f args w fun e w'=>e=.returned (.bool b)/\Below w.heap.size w w':=by
 have h:=hF _ _ args w hs hr
 have hn':fn.name≠"runtime.NumGoroutine":=by simpa using hn
 have hrun:(callFunc f args).run P w=.ok (.enter f args) w:=by simp [callFunc,program,Sem.run,hf,hn',hb]
 unfold CallsTo at h
 rw [hrun] at h
 refine Calls.mono h fun e w' ⟨v,he,l,hl,I,U,B,F,hrel⟩=>?_
 subst hl
 obtain ⟨_,hroot,⟨N,n1,_⟩,_⟩:=hrel.key m ⟨.one,[.c (.b b)],[]⟩ (by simp [mk,up])
 have hv:v=U m 0:=by
  have:(args.push v).getD m undef=U m 0:=hroot.2.2
  rw [<- this,Array.getD_eq_getD_getElem?,<- hs];simp
 have hrep:Rep P w' I (.b b) (U m 0) (N 0):=n1 0 _ rfl
 have hu:U m 0=.bool b:=by
  generalize U m 0=u at hrep
  cases hrep;rfl
 refine ⟨by rw [he,hv,hu],⟨hrel.fr.os,hrel.fr.tape,hrel.fr.output,hrel.fr.size,fun k hk=>hrel.fr.block k hk fun q h=>h⟩⟩
theorem rep_ints {P:Program} {w:World} {e:TypeId} {k:IntKind} {a:Addr} {len cap:Nat} {zs:List Int} (he:P.cellsOf e=1) (hlc:len<=cap) (hcm:cap<=maxLen) (hz:zs.length=len) (hc:∀ i,i<len->w.cell? (a.add i)=some (.int k (zs.getD i 0))) {F:FP} :
  Rep P w (fun b=>b<w.heap.size) (.sh e (typ 0 (fun y=>[.n k y]) zs)) (.slice (some a) len cap) F:=by
 subst hz
 have hblk:0<zs.length->a.block<w.heap.size:=fun h=>by
  have h0:=hc 0 h
  exact block_lt_of_cell h0
 refine Rep.sh (es:=typ 0 (fun y=>[.n k y]) zs) (fun i _=>.int k (zs.getD i 0)) hlc (by have:=hcm;unfold maxLen at this;show zs.length<=_;omega) (fun h=>⟨a,rfl,hblk h,fun i row hrow o ho=>?_⟩) (fun i row hrow=>?_) (fun i row o x hrow hx=>?_)
 all_goals
  rw [typ_l,List.getElem?_map] at hrow
  obtain ⟨z,hz,rfl⟩:=Option.map_eq_some_iff.1 hrow
  have hi:=(List.getElem?_eq_some_iff.1 hz).1
  have hg:zs.getD i 0=z:=by rw [List.getD_eq_getElem?_getD,hz]<;>rfl
 ·have ho:o=0:=by simpa using ho
  subst ho
  rw [he];simpa using hc i hi
 ·simp [he]
 ·cases o with
  | zero=>simp at hx;subst hx;rw [hg];exact .n
  | succ o=>simp at hx
end Go.Proofs.AI
namespace Go.Proofs.AI
open Go.RowKit Go.Proofs
set_option linter.unusedVariables false
set_option linter.unusedSimpArgs false
theorem RootAt.any {w:World} {K K':Ky} {v:Value} {us:Nat->Value} {B:Nat×Nat} (h:RootAt w K v us B) (hs:K'.sh=K.sh) (hl:K'.cells.length=K.cells.length):RootAt w K' v us B:=by
 unfold RootAt at h ⊢
 rw [hs,hl];exact h
theorem FunOK.sh0 {P:Program} {f:FuncId} {post:L->Prop} {e:TypeId} {es:Rows CV} (h0:es.n=0)
  (h:∀ (A:Option Addr) (c:Nat),FunOK P f 1 [] [(0,⟨.one,[.c (.vl (.slice A 0 c))],[]⟩)] post):FunOK P f 1 [] [(0,⟨.one,[.c (.sh e es)],[]⟩)] post:=by
 intro F0 I0 args w hs ⟨I,U,B,F,hr⟩
 obtain ⟨k1,hroot,⟨N,n1,n2,n3⟩,k4⟩:=hr.key 0 ⟨.one,[.c (.sh e es)],[]⟩ (by simp [mk,up])
 have hrep:Rep P w I (.sh e es) (U 0 0) (N 0):=n1 0 _ rfl
 obtain ⟨A,c,us,hv,_⟩:=hrep.sh_inv
 rw [h0] at hv
 refine h A c F0 I0 args w hs ⟨I,U,B,F,{ hr with key:=fun t K hK=>?_,may:=fun t b hb=>?_ }⟩
 ·simp only [mk,up] at hK
  split at hK
  ·rename_i ht
   subst ht;cases hK
   refine ⟨k1,hroot.any rfl rfl,⟨N,fun o x hx=>?_,n2,fun o b hb=>⟨(n3 o b hb).1,fun q=>by cases q.1⟩⟩,fun b hb=>by cases hb.1⟩
   cases o with
   | zero =>
    simp at hx;subst hx
    show Rep P w I (.vl (.slice A 0 c)) (U 0 0) (N 0)
    rw [hv];exact .vl rfl
   | succ o=>simp at hx
  ·cases hK
 ·rcases hr.may t b hb with h1 | h1 | ⟨K,h1,h2,_⟩
  ·exact .inl h1
  ·exact .inr (.inl h1)
  ·simp only [mk,up] at h1
   split at h1
   ·cases h1;cases h2.1
   ·cases h1
theorem FunOK.hand {P:Program} {f:FuncId} {fn:Func} {c:Code} (hf:P.funcs[f]?=some fn) (hb:fn.body=some c) (hn:(fn.name=="runtime.NumGoroutine")=false) {m:Nat} {ins:L} {K:Ky} (hsh:K.sh≠.box)
  (h:∀ (args:Array Value) (w:World) (I:Nat->Prop) (U:Nat->Nat->Value) (B:Nat->Nat×Nat),args.size=m->(∀ b,I b->b<w.heap.size) ->
   (∀ t K,mk ins t=some K->RootAt w K (args.getD t undef) (U t) (B t)/\∀ (o:Nat) x,K.cells[o]?=some (.c x)->∃ G,Rep P w I x (U t o) G) ->
   Calls P f args w fun e w'=>∃ v us,e=.returned v/\Below w.heap.size w w'/\RootAt w' K v us (0,0)/\∀ (o:Nat) x,K.cells[o]?=some x->∃ y,x=.c y/\Rep P w' I y (us o) FP.none) :
  FunOK P f m [] ins (·=[(m,K)]):=by
 intro F0 I0 args w hs ⟨I,U,B,F,hr⟩
 have hrun:(callFunc f args).run P w=.ok (.enter f args) w:=by
  have hn':fn.name≠"runtime.NumGoroutine":=by simpa using hn
  simp [callFunc,program,Sem.run,hf,hn',hb]
 unfold CallsTo
 rw [hrun]
 have hk:∀ t K,mk ins t=some K->RootAt w K (args.getD t undef) (U t) (B t)/\∀ (o:Nat) x,K.cells[o]?=some (.c x)->∃ G,Rep P w I x (U t o) G:=by
  intro t K hK
  obtain ⟨_,h1,⟨N,n1,_⟩,_⟩:=hr.key t K hK
  exact ⟨h1,fun o x hx=>⟨_,n1 o _ hx⟩⟩
 refine Calls.mono (h args w I U B hs hr.ro hk) fun e w' ⟨v,us,he,h2,h3,h4⟩=>⟨v,he,_,rfl,?_⟩
 refine ⟨I,fun _=>us,fun _=>(0,0),fun _=>FP.none,⟨by simp [hs],rfl,fun t K' hK=>?_,fun _ _ _ h=>h.elim,fun _ _ h=>h.elim,fun _ _ h=>h.elim,fun b hb=>Nat.lt_of_lt_of_le (hr.ro b hb) h2.size,hr.ro0,hr.roN,Fr.below h2 _⟩⟩
 simp only [mk,up] at hK
 split at hK
 ·rename_i ht
  subst ht;cases hK
  refine ⟨Nat.lt_succ_self _,⟨?_,⟨fun _=>FP.none,fun o x hx=>?_,fun _ _ _ h=>h.elim,fun _ _ h=>h.elim⟩,fun b hb=>(hsh hb.1).elim⟩⟩
  ·have:(args.push v).getD t undef=v:=by rw [Array.getD_eq_getD_getElem?,<- hs];simp
   rw [this];exact h3
  ·obtain ⟨y,rfl,hy⟩:=h4 o x hx
   exact hy
 ·cases hK
end Go.Proofs.AI
namespace Go.Proofs.AI
open Go.RowKit Go.Shelf Go.Proofs
set_option linter.unusedVariables false
set_option linter.unusedSimpArgs false
attribute [local go_sem] Oper.semAt_some
def upto {α:Type} (f:Nat->α) (k:Nat):List α:=(List.range k).map f
theorem upto_succ {α:Type} (f:Nat->α) (k:Nat):upto f (k+1)=upto f k++[f k]:=by simp [upto,List.range_succ]
theorem upto_length {α:Type} (f:Nat->α) (k:Nat):(upto f k).length=k:=by simp [upto]
theorem wpListIn_load {F:Fence} {n:Nat} {P:Program} {ops:Array Oper} {rest:List Oper} {a:Act} {Q:Exit->Act->World->Prop} {w:World} {d:Nat} {t ty:TypeId} {x:Operand} {pos:String} {after:Array Edge} {v u:Value}
  (hx:a.eval x=u) (hrun:(Instr.loadAt t u).run P w=.ok v w) (h:wpListIn F n P ops Q rest (a.put (some d) v) w):wpListIn F n P ops Q (⟨some d,.load t x,ty,pos,after,none⟩::rest) a w:=by
 refine wpListIn_plain rfl fun K hK'=>?_
 unfold Oper.wpIn
 refine ⟨by simp [Oper.about],?_⟩
 rw [Oper.semAt_plain F _ _ (by intro c hc';cases hc')]
 simp [execOp,hx,hrun,Result.andThen]
 exact hK' _ _ h
theorem wpListIn_indexAddr {F:Fence} {n:Nat} {P:Program} {ops:Array Oper} {rest:List Oper} {a:Act} {Q:Exit->Act->World->Prop} {w:World} {d:Nat} {t ty:TypeId} {x y:Operand} {pos:String} {after:Array Edge} {v:Value}
  (hrun:(Instr.indexAt t (a.eval x) (a.eval y)).run P w=.ok v w) (h:wpListIn F n P ops Q rest (a.put (some d) v) w):wpListIn F n P ops Q (⟨some d,.indexAddr t x y,ty,pos,after,none⟩::rest) a w:=by
 refine wpListIn_plain rfl fun K hK'=>?_
 unfold Oper.wpIn
 refine ⟨by simp [Oper.about],?_⟩
 rw [Oper.semAt_plain F _ _ (by intro c hc';cases hc')]
 simp [execOp,hrun,Result.andThen]
 exact hK' _ _ h
theorem wpListIn_fieldAddr {F:Fence} {n:Nat} {P:Program} {ops:Array Oper} {rest:List Oper} {a:Act} {Q:Exit->Act->World->Prop} {w:World} {d:Nat} {t ty:TypeId} {x:Operand} {f:Nat} {pos:String} {after:Array Edge} {v u:Value}
  (hx:a.eval x=u) (hrun:(Instr.fieldAt t u f).run P w=.ok v w) (h:wpListIn F n P ops Q rest (a.put (some d) v) w):wpListIn F n P ops Q (⟨some d,.fieldAddr t x f,ty,pos,after,none⟩::rest) a w:=by
 refine wpListIn_plain rfl fun K hK'=>?_
 unfold Oper.wpIn
 refine ⟨by simp [Oper.about],?_⟩
 rw [Oper.semAt_plain F _ _ (by intro c hc';cases hc')]
 simp [execOp,hx,hrun,Result.andThen]
 exact hK' _ _ h
theorem wpListIn_store {F:Fence} {n:Nat} {P:Program} {ops:Array Oper} {rest:List Oper} {a:Act} {Q:Exit->Act->World->Prop} {w w':World} {t ty:TypeId} {p x:Operand} {pos:String} {after:Array Edge}
  (hrun:(Instr.storeAt t (a.eval p) (a.eval x)).run P w=.ok () w') (h:wpListIn F n P ops Q rest (a.put none undef) w'):wpListIn F n P ops Q (⟨none,.store t p x,ty,pos,after,none⟩::rest) a w:=by
 refine wpListIn_plain rfl fun K hK'=>?_
 unfold Oper.wpIn
 refine ⟨by simp [Oper.about],?_⟩
 rw [Oper.semAt_plain F _ _ (by intro c hc';cases hc')]
 simp [execOp,hrun,Result.andThen]
 exact hK' _ _ h
theorem store_stBox {P:Program} {T:Tab} (hT:TabOk P T) {t e:TypeId} {i:TyI} (hi:T t=some i) {g:Nat} {cur:Array Value} {w:World} (hg:w.heap[g]?=some (.cells cur e (0,0))) {arr:Array Value} (hl:arr.size<=cur.size) (hs:arr.size=i.size) (hone:∀ v∈arr.toList,One v) :
  (Instr.storeAt t (.pointer (some ⟨g,0,none⟩)) (.agg arr)).run P w=.ok () (wset w g 0 arr.toList):=by
 have hsz:=sizeOf_run (w:=w) (hT t i hi)
 have h1:=storeCells_run (P:=P) (b0:=0) arr.toList 0 w cur hg (by simpa using hl) hone
 have hc:(Value.agg arr).cells=arr:=rfl
 simp [Instr.storeAt,Instr.sureAddr,storeVar,hsz,hc,hs,h1]
theorem indexAt_st {P:Program} {T:Tab} (hT:TabOk P T) {t e:TypeId} {i ie:TyI} (hi:T t=some i) (hk:i.k=.sl e) (he:T e=some ie) {ad:Addr} {n c k:Nat} {x:Int} (hx:x=k) (hlt:k<n) {w:World} :
  (Instr.indexAt t (.slice (some ad) n c) (.int .i64 x)).run P w=.ok (.pointer (some (ad.add (k*ie.size)))) w:=by
 have hd:=(hT t i hi).desc
 simp only [hk] at hd
 have hsz:=sizeOf_run (w:=w) (hT e ie he)
 subst hx
 have ho:(0:Int)<=k/\(k:Int)<n:=⟨Int.natCast_nonneg _,by exact_mod_cast hlt⟩
 simp [Instr.indexAt,run_underlying hd,asIntOf,hsz]
 omega
set_option maxRecDepth 100000 in
set_option maxHeartbeats 2000000 in
theorem bwd1_in (F:Fence) (n:Nat) (h7:F.fn 157) (hro:F.round=none) (hn:1<=n) (l Bs n₀:Nat) (A:Option Addr) (len cap:Nat) (us:Nat->Nat->Value) (hcap:len<=cap) (hreach:len<=9223372036854775807)
  (J Jx:List Nat->World->Prop)
  (hY:∀ (pre:List Nat) (x:Nat) (W:World),J pre W->pre.length<len->YieldAt F (n-1) Tryz.prog l #[.int .i64 ((x:Nat):Int),.agg #[us x 0,us x 1,us x 2,us x 3]] W fun e W' =>
   (e=.returned (.bool true)/\J (pre++[x]) W'/\Below n₀ W W')∨(e=.returned (.bool false)/\Jx (pre++[x]) W'))
  (W:World) (hBs:W.cell? ⟨Bs,0,none⟩=some (.slice A len cap)) (hB0:Bs<n₀) (hc:0<len->∃ ad:Addr,A=some ad/\ad.block<n₀/\∀ k,k<len->∀ o,o<4->W.cell? (ad.add (k*4+o))=some (us k o)) (h0:J [] W) :
  CallsIn F n Tryz.prog 157 #[.func (.yield l) #[] #[],.pointer (some ⟨Bs,0,none⟩)] W fun e W'=>(∃ v,e=.returned v) /\
   ((∃ ys,ys=upto (fun j=>len-1-j) len/\J ys W')∨(∃ pre,(∃ k,k<len/\pre=upto (fun j=>len-1-j) (k+1))/\Jx pre W')):=by
 refine callsIn_of_wp Tryz.func157 rfl h7 ?_ hro
 simp only [Tryz.ntmps157,List.size_toArray,List.length_cons,List.length_nil,Nat.reduceAdd,Nat.reduceSub,Array.replicate_succ,Array.replicate_zero,List.push_toArray,List.append_toArray,List.nil_append,List.cons_append]
 gi_wp2
 gi_loopw [3] (fun i wr=>∃ k:Nat,k<=len/\i=.int .i64 ((len:Int)-1-k)/\J (upto (fun j=>len-1-j) k) wr/\Below n₀ W wr)
  (fun i _=>(intOf i+1).toNat)
 case atStart=>exact ⟨0,Nat.zero_le _,by simp,h0,Below.refl _ _⟩
 case round =>
  obtain ⟨k,hk,rfl,hJs,hnx⟩:=hrel
  have hBs':wr.cell? ⟨Bs,0,none⟩=some (.slice A len cap):=(hnx.cell (p:=⟨Bs,0,none⟩) hB0).trans hBs
  by_cases hlt:k<len
  ·obtain ⟨ad,rfl,hab,hcs⟩:=hc (by omega)
   have hge:(0:Int)<=(len:Int)-1-k:=by omega
   have hcx:∀ o,o<4->wr.cell? ((ad.add ((len-1-k)*4)).add o)=some (us (len-1-k) o):=fun o ho=>by
    rw [add_add]
    exact (hnx.cell (by rw [add_block];exact hab)).trans (hcs _ (by omega) o ho)
   have e1:((len:Int)-1-k)=((len-1-k:Nat):Int):=by omega
   obtain ⟨fn,tmps,assign,body,hy,hR⟩:=hY _ (len-1-k) wr hJs (by rw [upto_length];exact hlt)
   gi_wp2_with first | (refine wpListIn_indexAddr (indexAt_st tab_ok (t:=33) rfl rfl rfl e1 (by omega)) ?_) | (refine wpListIn_load rfl (load_agg tab_ok (t:=107) rfl rfl (fun o=>us (len-1-k) o) hcx) ?_)
   refine hR.mono ?_
   rintro e W3 (⟨rfl,hJ3,hk3⟩ | ⟨rfl,hJx3⟩)
   ·gi_wp2
    go_roundw
    case rel=>exact ⟨k+1,by omega,by congr 1;omega,by rw [upto_succ];exact hJ3,hnx.trans hk3⟩
    case measure=>simp [intOf];omega
   ·gi_wp2
    refine bodyPost_ret (results_none rfl _ _ _) rfl ?_
    exact ⟨⟨_,rfl⟩,.inr ⟨_,⟨k,hlt,(upto_succ _ _).symm⟩,hJx3⟩⟩
  ·obtain rfl:k=len:=by omega
   gi_wp2
   go_end0
   exact ⟨⟨_,rfl⟩,.inl ⟨_,rfl,hJs⟩⟩
set_option maxHeartbeats 1000000 in
theorem bwd_in (F:Fence) (n:Nat) (h:F.fn 115) (hro:F.round=none) (A:Option Addr) (len cap:Nat) (w:World) :
  CallsIn F n Tryz.prog 115 #[.slice A len cap] w fun e w'=>e=.returned (.func (.func 157) #[] #[.pointer (some ⟨w.heap.size,0,none⟩)])/\w'=w.alloc (.cells #[.slice A len cap] 33):=by
 refine callsIn_of_wp Tryz.func115 rfl h ?_ hro
 simp only [Tryz.ntmps115,List.size_toArray,List.length_cons,List.length_nil,Nat.reduceAdd,Nat.reduceSub,Array.replicate_succ,Array.replicate_zero,List.push_toArray,List.append_toArray,List.nil_append,List.cons_append]
 gi_wp2
 go_ret
 exact ⟨rfl,rfl⟩
theorem bwd_stops (F:Fence) (n:Nat) (h7:F.fn 157) (hro:F.round=none) (hn:1<=n) (Bs n₀:Nat) (A:Option Addr) (len cap:Nat) (us:Nat->Nat->Value) (hcap:len<=cap) (hreach:len<=9223372036854775807) (w:World) (hBs:Bs<n₀) (hn₀:n₀<=w.heap.size)
  (hcb:w.cell? ⟨Bs,0,none⟩=some (.slice A len cap)) (hc:0<len->∃ ad:Addr,A=some ad/\ad.block<n₀/\∀ k,k<len->∀ o,o<4->w.cell? (ad.add (k*4+o))=some (us k o)) :
  SeqStopsK F n Tryz.prog 157 #[.pointer (some ⟨Bs,0,none⟩)] (fun x:Nat=>#[Value.int .i64 (x:Int),.agg #[us x 0,us x 1,us x 2,us x 3]]) (Below n₀) (fun ys=>ys=upto (fun j=>len-1-j) len)
   (fun pre=>∃ k,k<len/\pre=upto (fun j=>len-1-j) (k+1)) len w:=fun l J Jx W hW _ _ hY h0=>by
 have hW':=hW.mono hn₀
 exact bwd1_in F n h7 hro hn l Bs n₀ A len cap us hcap hreach J Jx hY W ((hW'.cell (p:=⟨Bs,0,none⟩) hBs).trans hcb) hBs (fun hp=>by
  obtain ⟨ad,e1,e2,e3⟩:=hc hp
  exact ⟨ad,e1,e2,fun k hk o ho=>(hW'.cell (by rw [add_block];exact e2)).trans (e3 k hk o ho)⟩) h0
end Go.Proofs.AI
namespace Go.Proofs.AI
open Go.RowKit Go.Shelf Go.Proofs
set_option linter.unusedVariables false
set_option linter.unusedSimpArgs false
attribute [local go_sem] Oper.semAt_some
def BoxN (W:World) (B:Nat) (t:TypeId) (vs:Array Value):Prop:=W.heap[B]?=some (.cells vs t (0,0))
theorem BoxN.lt {W:World} {B:Nat} {t:TypeId} {vs:Array Value} (h:BoxN W B t vs):B<W.heap.size:=(Array.getElem?_eq_some_iff.1 h).1
theorem BoxN.new (W:World) (t:TypeId) (vs:Array Value):BoxN (W.alloc (.cells vs t)) W.heap.size t vs:=World.alloc_heap_new W _
theorem BoxN.kept {W W':World} {row:Option Nat} {B:Nat} {t:TypeId} {vs:Array Value} (h:BoxN W B t vs) (hg:W.grownBy W' row) (hne:some B≠row):BoxN W' B t vs:=(hg.block B h.lt hne).trans h
theorem BoxN.cell {W:World} {B:Nat} {t:TypeId} {vs:Array Value} (h:BoxN W B t vs) (o:Nat):W.cell? ⟨B,o,none⟩=vs[o]?:=by simp [World.cell?,show W.heap[B]?=_ from h]
theorem laid_note (W:World) (z a b c d:Value) (z1 z2 z3:Value):W.grownBy (wset (W.alloc (.cells #[z,z1,z2,z3] 107)) W.heap.size 0 [a,b,c,d]) none/\BoxN (wset (W.alloc (.cells #[z,z1,z2,z3] 107)) W.heap.size 0 [a,b,c,d]) W.heap.size 107 #[a,b,c,d]:=by
 have hn1:=World.alloc_heap_new W (.cells #[z,z1,z2,z3] 107)
 have hq:=heap_set _ W.heap.size 3 d (heap_set _ W.heap.size 2 c (heap_set _ W.heap.size 1 b (heap_set _ W.heap.size 0 a hn1)))
 refine ⟨⟨rfl,rfl,rfl,by simp [wset],fun k hk hne=>?_⟩,hq⟩
 simp only [wset]
 have hk':k≠W.heap.size:=by omega
 rw [heap_far _ _ _ _ hk',heap_far _ _ _ _ hk',heap_far _ _ _ _ hk',heap_far _ _ _ _ hk']
 exact Below.heap_alloc W _ k hk
def ofV (kd tk:Nat->Int) (tx:Int):Nat->Int
 | 0=>0
 | k+1=>if tk k=tx/\kd k≠4 then kd k else ofV kd tk tx k
def usN (kd tk:Nat->Int) (lk wk:Nat->Value) (k:Nat):Nat->Value
 | 0=>.int .i64 (kd k)
 | 1=>.int .i64 (tk k)
 | 2=>lk k
 | _=>wk k
theorem ofV_miss {kd tk:Nat->Int} {tx:Int}:∀ {n:Nat},(∀ j,j<n->¬ (tk j=tx/\kd j≠4))->ofV kd tk tx n=0
 | 0,_=>rfl
 | n+1,h=>by rw [ofV,if_neg (h n (by omega))];exact ofV_miss fun j hj=>h j (by omega)
theorem ofV_hit {kd tk:Nat->Int} {tx:Int} {k:Nat} (hk:tk k=tx/\kd k≠4):∀ {n:Nat},k<n->(∀ j,k<j->j<n->¬ (tk j=tx/\kd j≠4))->ofV kd tk tx n=kd k
 | 0,h,_=>absurd h (Nat.not_lt_zero _)
 | n+1,h,hm=>by
  rw [ofV]
  by_cases e:k=n
  ·subst e;rw [if_pos hk]
  ·rw [if_neg (hm n (by omega) (by omega))];exact ofV_hit hk (by omega) fun j h1 h2=>hm j h1 (by omega)
set_option maxRecDepth 100000 in
set_option maxHeartbeats 4000000 in
theorem of_in (F:Fence) (n:Nat) (h69:F.fn 69) (h115:F.fn 115) (h157:F.fn 157) (hro:F.round=none) (hn:3<=n) (A:Option Addr) (len cap:Nat) (kd tk:Nat->Int) (lk wk:Nat->Value) (safe tx:Int) (hcap:len<=cap) (hreach:len<=9223372036854775807)
  (hl1:∀ k,One (lk k)) (hw1:∀ k,One (wk k)) (w:World)
  (hc:0<len->∃ ad:Addr,A=some ad/\ad.block<w.heap.size/\∀ k,k<len->∀ o,o<4->w.cell? (ad.add (k*4+o))=some (usN kd tk lk wk k o)) :
  CallsIn F n Tryz.prog 69 #[.agg #[.slice A len cap,.int .i64 safe],.int .i64 tx] w fun e W'=>e=.returned (.int .i64 (ofV kd tk tx len))/\Below w.heap.size w W':=by
 have h1:1<=n:=by omega
 refine callsIn_of_wp_marks Tryz.func69 rfl h69 ?_ hro
 simp only [Tryz.ntmps69,List.size_toArray,List.length_cons,List.length_nil,Nat.reduceAdd,Nat.reduceSub,Array.replicate_succ,Array.replicate_zero,List.push_toArray,List.append_toArray,List.nil_append,List.cons_append]
 gi_wp2_with first | (refine wpListIn_fieldAddr rfl (fieldAt_run tab_ok (t:=35) rfl rfl _) ?_) | (gi_at_call 115;refine (bwd_in F (n-1) h115 hro _ _ _ _).mono ?_;rintro e w' ⟨rfl,rfl⟩)
 have bD:=((BoxN.new w 35 #[.slice A len cap,.int .i64 safe]))
 have bT:=(Boxed.new (w.alloc (.cells #[.slice A len cap,.int .i64 safe] 35)) 3 (.int .i64 tx)).alloc (.cells #[.int .i64 0] 3)
 have bT:=bT.alloc (.cells #[.slice A len cap] 33)
 have bR:=(Boxed.new ((w.alloc (.cells #[.slice A len cap,.int .i64 safe] 35)).alloc (.cells #[.int .i64 tx] 3)) 3 (.int .i64 0)).alloc (.cells #[.slice A len cap] 33)
 have bS:=Boxed.new (((w.alloc (.cells #[.slice A len cap,.int .i64 safe] 35)).alloc (.cells #[.int .i64 tx] 3)).alloc (.cells #[.int .i64 0] 3)) 33 (.slice A len cap)
 simp only [World.size_alloc] at bT bR bS
 have hB0:Below w.heap.size w ((((w.alloc (.cells #[.slice A len cap,.int .i64 safe] 35)).alloc (.cells #[.int .i64 tx] 3)).alloc (.cells #[.int .i64 0] 3)).alloc (.cells #[.slice A len cap] 33)) :=
  ((((Below.refl _ w).alloc (Nat.le_refl _) _).alloc (by simp) _).alloc (by simp;omega) _).alloc (by simp;omega) _
 have hsz:((((w.alloc (.cells #[.slice A len cap,.int .i64 safe] 35)).alloc (.cells #[.int .i64 tx] 3)).alloc (.cells #[.int .i64 0] 3)).alloc (.cells #[.slice A len cap] 33)).heap.size=w.heap.size+4:=by simp
 obtain ⟨W0,hW0⟩:∃ W0,(((w.alloc (.cells #[.slice A len cap,.int .i64 safe] 35)).alloc (.cells #[.int .i64 tx] 3)).alloc (.cells #[.int .i64 0] 3)).alloc (.cells #[.slice A len cap] 33)=W0:=⟨_,rfl⟩
 rw [hW0] at bT bR bS hB0 hsz ⊢
 clear hW0 bD
 have hnb:∀ ad:Addr,ad.block<w.heap.size->∀ k,(ad.add k).block<w.heap.size:=fun ad h k=>by rw [add_block];exact h
 refine wpIn_rangeFunc_ownH hro h1 (gf:=157) (lb:=#[.pointer (some ⟨w.heap.size+1+1+1,0,none⟩)]) rfl h157 (enters_of Tryz.func157 (by kernel_rfl) rfl)
  (bwd_stops F (n-1) h157 hro (by omega) (w.heap.size+1+1+1) (w.heap.size+4) A len cap (usN kd tk lk wk) hcap hreach W0 (by omega) (by omega) bS.cell (fun hp=>by
   obtain ⟨ad,e1,e2,e3⟩:=hc hp
   exact ⟨ad,e1,by omega,fun k hk o ho=>(hB0.cell (hnb ad e2 _)).trans (e3 k hk o ho)⟩)) belowK_t (belowK_b (by omega)) (Below.refl _ _) (fun _=>rfl)
  (fun pre W=>((∀ x∈pre,¬ (tk x=tx/\kd x≠4))/\Boxed W (w.heap.size+1) 3 (.int .i64 tx)/\Boxed W (w.heap.size+1+1) 3 (.int .i64 0)/\w.heap.size+4<=W.heap.size)/\Below w.heap.size w W)
  (fun c pre W=>(c=.ret/\∃ ini last,pre=ini++[last]/\(∀ x∈ini,¬ (tk x=tx/\kd x≠4))/\(tk last=tx/\kd last≠4)/\Boxed W (w.heap.size+1+1) 3 (.int .i64 (kd last)))/\Below w.heap.size w W)
  (OwnFrom.and (Own.from (fun s A B row hs hg hr=>⟨hs.1,boxed_own _ 3 (fun (_:Unit)=>Value.int .i64 tx) () A B row hs.2.1 hg hr,boxed_own _ 3 (fun (_:Unit)=>Value.int .i64 0) () A B row hs.2.2.1 hg hr,Nat.le_trans hs.2.2.2 hg.size⟩) _) (ownFrom_below (Nat.le_refl _) (by omega)))
  (fun c=>OwnFrom.and (Own.from (fun s A B row hs hg hr=>by obtain ⟨hc,ini,last,e1,e2,e3,e4⟩:=hs;exact ⟨hc,ini,last,e1,e2,e3,boxed_own _ 3 (fun (_:Unit)=>Value.int .i64 (kd last)) () A B row e4 hg hr⟩) _) (ownFrom_below (Nat.le_refl _) (by omega)))
  ⟨⟨by simp,bT,bR,by omega⟩,hB0⟩
  (fun x a' W=>∃ Bx,w.heap.size+1+1+1<Bx/\(∀ o,o<4->W.cell? ⟨Bx,o,none⟩=some (usN kd tk lk wk x o))/\a'={ tmps:=#[.agg #[.slice A len cap,.int .i64 safe],.int .i64 tx,.pointer (some ⟨w.heap.size,0,none⟩),.pointer (some ⟨w.heap.size+1,0,none⟩),.pointer (some ⟨w.heap.size+1+1,0,none⟩),undef,.pointer (some ⟨Bx,0,none⟩),.pointer (some ⟨w.heap.size,0,none⟩),.slice A len cap,.func (.func 157) #[] #[.pointer (some ⟨w.heap.size+1+1+1,0,none⟩)],.int .i64 (x:Nat),.agg #[.int .i64 (kd x),.int .i64 (tk x),lk x,wk x],undef,undef,undef,undef,undef,undef,undef,undef,undef,undef,undef],defers:=[] })
  (fun x a' _ X Y row hs hg hr=>by obtain ⟨Bx,h1,h2,h3⟩:=hs;exact ⟨Bx,h1,fun o ho=>cell_kept (h2 o ho) hg (fun r e=>(hr r e).2),h3⟩)
  ?assign ?body ?done ?stop
 case assign =>
  rintro l pre x W K ⟨⟨hp,bT1,bR1,hS1⟩,hB1⟩ hK
  have hW4:=hB1.size
  have hone:∀ v∈(#[usN kd tk lk wk x 0,usN kd tk lk wk x 1,usN kd tk lk wk x 2,usN kd tk lk wk x 3]:Array Value).toList,One v:=by
   intro v hv
   have hv:v=usN kd tk lk wk x 0∨v=usN kd tk lk wk x 1∨v=usN kd tk lk wk x 2∨v=usN kd tk lk wk x 3:=by simpa using hv
   rcases hv with rfl | rfl | rfl | rfl
   ·rfl
   ·rfl
   ·exact hl1 x
   ·exact hw1 x
  have hn1:=BoxN.new W 107 #[.int .i64 0,.int .i64 0,.slice none 0 0,.slice none 0 0]
  gi_wp2_with (refine wpListIn_store (store_stBox tab_ok (t:=107) rfl hn1 (by simp) rfl hone) ?_)
  obtain ⟨hg,hX⟩:=laid_note W (.int .i64 0) (usN kd tk lk wk x 0) (usN kd tk lk wk x 1) (usN kd tk lk wk x 2) (usN kd tk lk wk x 3) (.int .i64 0) (.slice none 0 0) (.slice none 0 0)
  generalize hWW:wset (W.alloc (Obj.cells #[Value.int IntKind.i64 0,Value.int IntKind.i64 0,Value.slice none 0 0,Value.slice none 0 0] 107)) W.heap.size 0 [usN kd tk lk wk x 0,usN kd tk lk wk x 1,usN kd tk lk wk x 2,usN kd tk lk wk x 3]=WW at hg hX ⊢
  clear hWW
  refine hK _ _ ((KeepsOthers.of_grownBy hg (fun j o e=>by cases e)).from _) ((Below.refl _ W).grown hg hS1 (fun k e=>by cases e)) ⟨⟨hp,bT1.kept hg (fun e=>by cases e),bR1.kept hg (fun e=>by cases e),Nat.le_trans hS1 hg.size⟩,hB1.grown hg hW4 (fun k e=>by cases e)⟩ ⟨W.heap.size,by omega,fun o ho=>?_,rfl⟩
  rw [hX.cell]
  have:o=0∨o=1∨o=2∨o=3:=by omega
  rcases this with rfl | rfl | rfl | rfl<;>rfl
 case body =>
  rintro l pre x a' W hl ⟨r,hr⟩ ⟨⟨hp,bT1,bR1,hS1⟩,hB1⟩ ⟨Bx,hBx,hX,rfl⟩ hlt
  have cT:=bT1.cell
  have cR:=bR1.cell
  have fR:=bR1.frozen
  have c0:W.cell? ⟨Bx,0,none⟩=some (.int .i64 (kd x)):=hX 0 (by omega)
  have c1:W.cell? ⟨Bx,1,none⟩=some (.int .i64 (tk x)):=hX 1 (by omega)
  clear hX
  have goon:¬ (tk x=tx/\kd x≠4)->∀ y∈pre++[x],¬ (tk y=tx/\kd y≠4):=fun h y hy=>by
   rcases List.mem_append.1 hy with h1 | h1
   ·exact hp y h1
   ·have:y=x:=by simpa using h1
    subst this;exact h
  by_cases e1:tk x=tx
  ·by_cases e2:kd x=4
   ·have hg:=goon (fun h=>h.2 e2)
    clear goon
    gi_wp2
    exact ⟨KeepsFrom.refl _ _,Below.refl _ _,⟨hg,bT1,bR1,hS1⟩,hB1⟩
   ·clear goon
    have hh:tk x=tx/\kd x≠4:=⟨e1,e2⟩
    gi_wp2
    exact ⟨(KeepsOthers.setCell _ _ _).from _,⟨rfl,pre,x,rfl,hp,hh,bR1.set _⟩,hB1.setCell (p:=⟨w.heap.size+1+1,0,none⟩) (by show w.heap.size<=w.heap.size+1+1;omega) _⟩
  ·have hg:=goon (fun h=>e1 h.1)
   clear goon
   gi_wp2
   exact ⟨KeepsFrom.refl _ _,Below.refl _ _,⟨hg,bT1,bR1,hS1⟩,hB1⟩
 case done =>
  rintro D ys W hD rfl ⟨⟨hp,bT1,bR1,hS1⟩,hB1⟩ hK
  have cR:=bR1.cell
  have fR:=bR1.frozen
  gi_wp2
  have hK':=(KeepsOthers.setCell W ⟨w.heap.size+1+1,0,none⟩ (.int .i64 0)).same D _ hK rfl
  refine ⟨by simp,.inl ⟨_,_,rfl,run_takeDeferred hK',?_⟩⟩
  have hc5:=cell_kept (World.cell?_setCell_same' W ⟨w.heap.size+1+1,0,none⟩ (.int .i64 0) (by rw [cR]<;>rfl)) (grownBy_putObj' _ D (.deferred none)) (fun r e=>by cases e;exact ⟨_,hK',rfl⟩)
  refine ⟨.int .i64 0,?_,by rw [ofV_miss fun j hj=>hp j (by simp only [upto,List.mem_map,List.mem_range];exact ⟨len-1-j,by omega,by omega⟩)],(hB1.setCell (p:=⟨w.heap.size+1+1,0,none⟩) (by show w.heap.size<=w.heap.size+1+1;omega) _).trans (belowK_b (w:=w) (Nat.le_refl _) _ D _ _ (by omega) hK' rfl rfl)⟩
  simp [results,Tryz.f69,go_sem,hc5]
 case stop =>
  rintro D c pre W hD ⟨k,hk,rfl⟩ ⟨⟨rfl,ini,last,e1,e2,e3,bR1⟩,hB⟩ hK
  gi_wp2
  refine ⟨by simp,.inl ⟨_,_,rfl,run_takeDeferred hK,?_⟩⟩
  have hc5:=cell_kept bR1.cell (grownBy_putObj' _ D (.deferred none)) (fun r e=>by cases e;exact ⟨_,hK,rfl⟩)
  rw [upto_succ] at e1
  obtain ⟨rfl,e5⟩:=List.append_inj' e1 rfl
  obtain rfl:len-1-k=last:=by simpa using e5
  refine ⟨.int .i64 (kd (len-1-k)),?_,by rw [ofV_hit e3 (by omega) fun j h1 h2=>e2 j (by simp only [upto,List.mem_map,List.mem_range];exact ⟨len-1-j,by omega,by omega⟩)],hB.trans (belowK_b (w:=w) (Nat.le_refl _) W D _ _ (by omega) hK rfl rfl)⟩
  simp [results,Tryz.f69,go_sem,hc5]
end Go.Proofs.AI
namespace Go.Proofs.AI
open Go.RowKit Go.Shelf Go.Proofs
set_option linter.unusedVariables false
set_option linter.unusedSimpArgs false
set_option maxRecDepth 100000
theorem ofV_eq {ns:List Note} {tx:Int}:∀ {k:Nat},k<=ns.length->ofV (fun k=>(ns.getD k dNote).kind) (fun k=>(ns.getD k dNote).tx) tx k=(ns.take k).foldl (ofS tx) 0
 | 0,_=>rfl
 | k+1,h=>by
  rw [ofV,fold_succ (d:=dNote) (by omega),<- ofV_eq (by omega),ofS]
theorem notes_at {P:Program} {w:World} {I:Nat->Prop} {ns:List Note} {v:Value} {G:FP} (h:Rep P w I (sNotes ns) v G) (hI:∀ b,I b->b<w.heap.size) :
  ∃ (A:Option Addr) (cap:Nat) (lk wk:Nat->Value),v=.slice A ns.length cap/\ns.length<=cap/\ns.length<=9223372036854775807/\(∀ k,One (lk k))/\(∀ k,One (wk k)) /\
   (0<ns.length->∃ ad:Addr,A=some ad/\ad.block<w.heap.size/\∀ k,k<ns.length->∀ o,o<4->w.cell? (ad.add (k*4+o))=some (usN (fun k=>(ns.getD k dNote).kind) (fun k=>(ns.getD k dNote).tx) lk wk k o)) /\
   ∀ k,k<ns.length->Rep P w I (sWrts (ns.getD k dNote).writes) (wk k) FP.none:=by
 obtain ⟨A,c,us,rfl,h1,h2,h3,h4,h5⟩:=h.sh_inv
 have row:∀ k,k<ns.length->(typ dNote eNoteS ns).l[k]?=some (eNoteS (ns.getD k dNote)):=fun k hk=>by rw [Rows.l_eq _ (by exact hk)]<;>rfl
 have r0:∀ k,k<ns.length->us k 0=.int .i64 (ns.getD k dNote).kind:=fun k hk=>by
  have:=h5 k _ 0 _ (row k hk) rfl
  generalize us k 0=u at this
  cases this;rfl
 have r1:∀ k,k<ns.length->us k 1=.int .i64 (ns.getD k dNote).tx:=fun k hk=>by
  have:=h5 k _ 1 _ (row k hk) rfl
  generalize us k 1=u at this
  cases this;rfl
 have r2:∀ k,k<ns.length->Rep P w I (sS (ns.getD k dNote).locks) (us k 2) FP.none:=fun k hk=>h5 k _ 2 _ (row k hk) rfl
 have r3:∀ k,k<ns.length->Rep P w I (sWrts (ns.getD k dNote).writes) (us k 3) FP.none:=fun k hk=>h5 k _ 3 _ (row k hk) rfl
 refine ⟨A,c,fun k=>if k<ns.length then us k 2 else .int .i64 0,fun k=>if k<ns.length then us k 3 else .int .i64 0,rfl,h1,h2,fun k=>?_,fun k=>?_,fun hp=>?_,fun k hk=>?_⟩
 ·show One (if k<ns.length then us k 2 else Value.int IntKind.i64 0)
  split
  ·rename_i hk;exact (r2 k hk).one
  ·rfl
 ·show One (if k<ns.length then us k 3 else Value.int IntKind.i64 0)
  split
  ·rename_i hk;exact (r3 k hk).one
  ·rfl
 ·obtain ⟨ad,e1,e2,e3⟩:=h3 hp
  refine ⟨ad,e1,hI _ e2,fun k hk o ho=>?_⟩
  have hc:=h4 k _ (row k hk)
  have hc:P.cellsOf tNote=4:=hc.symm
  have:=e3 k _ (row k hk) o ho
  rw [hc] at this
  rw [this]
  have ho:o=0∨o=1∨o=2∨o=3:=by omega
  rcases ho with rfl | rfl | rfl | rfl
  ·rw [r0 k hk]<;>rfl
  ·rw [r1 k hk]<;>rfl
  ·simp only [usN,if_pos hk]
  ·simp only [usN,if_pos hk]
 ·simp only [if_pos hk];exact r3 k hk
theorem impl_of_ok (d:Disk) (tx:Int):FunOK Tryz.prog 69 2 [] [(0,kDiskS d),(1,kI tx)] (·=[(2,kI (ofN d.notes tx))]):=by
 refine FunOK.hand Tryz.func69 rfl rfl (by simp) fun args w I U B hs hI hk=>?_
 obtain ⟨a1,a2⟩:=hk 0 (kDiskS d) (by simp [mk,up])
 obtain ⟨b1,b2⟩:=hk 1 (kI tx) (by simp [mk,up])
 obtain ⟨G0,hn⟩:=a2 0 _ rfl
 obtain ⟨G1,hsf⟩:=a2 1 _ rfl
 obtain ⟨G2,htx⟩:=b2 0 _ rfl
 obtain ⟨A,cap,lk,wk,hv,hcap,hmax,hl,hw,hc,_⟩:=notes_at hn hI
 obtain ⟨arr,e1,e2,e3⟩:=a1.2
 have hsf':U 0 1=.int .i64 d.safe:=by generalize U 0 1=u at hsf;cases hsf;rfl
 have htx':U 1 0=.int .i64 tx:=by generalize U 1 0=u at htx;cases htx;rfl
 have harr:arr=#[.slice A d.notes.length cap,.int .i64 d.safe]:=by
  have q0:=e3 0 (by simp)
  have q1:=e3 1 (by simp)
  refine Array.ext (by simpa using e2) fun j h1 h2=>?_
  have:j=0∨j=1:=by
               have:j<2:=by simpa using h2
               omega
  rcases this with rfl | rfl
  ·rw [Array.getElem?_eq_getElem h1] at q0;rw [Option.some.inj q0,hv]<;>rfl
  ·rw [Array.getElem?_eq_getElem h1] at q1;rw [Option.some.inj q1,hsf']<;>rfl
 have hargs:args=#[.agg #[.slice A d.notes.length cap,.int .i64 d.safe],.int .i64 tx]:=by
  have q1:args.getD 1 undef=U 1 0:=b1.2.2
  refine Array.ext (by simpa using hs) fun j h1 h2=>?_
  have:j=0∨j=1:=by
               have:j<2:=by simpa using h2
               omega
  rcases this with rfl | rfl
  ·rw [Array.getD_eq_getD_getElem?,Array.getElem?_eq_getElem h1] at e1;rw [<- harr];exact e1
  ·rw [Array.getD_eq_getD_getElem?,Array.getElem?_eq_getElem h1,htx'] at q1;exact q1
 subst hargs
 refine Calls.mono (callsIn_wide.1 (of_in Fence.wide 3 trivial trivial trivial rfl (Nat.le_refl _) A d.notes.length cap _ _ lk wk d.safe tx hcap hmax hl hw w hc)) fun e w' ⟨h1,h2⟩=>⟨_,fun _=>.int .i64 (ofN d.notes tx),h1,h2,?_,fun o x hx=>?_⟩
 ·rw [ofV_eq (Nat.le_refl _),List.take_length]
  exact ⟨fun _ _=>rfl,rfl,rfl⟩
 ·cases o with
  | zero=>simp at hx;subst hx;exact ⟨_,rfl,.n⟩
  | succ o=>simp at hx
end Go.Proofs.AI
namespace Go.Proofs.AI
open Go.RowKit Go.Proofs
set_option linter.unusedVariables false
set_option linter.unusedSimpArgs false
set_option maxRecDepth 100000
theorem CloneSz_ok (A:Option Addr) (q:Nat):FunOK Tryz.prog 166 1 [] [(0,k1 (.vl (.slice A 0 q)))] (·=[(1,k1 (oS []))]):=by
 refine fun_to (E:=⟨tab,ctOf [],8,[],[(0,[0,5,6,7]),(1,[0,4,5,6,7]),(2,[0,2,5,6,7]),(3,[0,2,5,6,7])],[],[],[],[]⟩) tab_ok mixed Tryz.func166 rfl Tryz.ntmps166 (rvs:=[.tmp 2]) Tryz.results166 rfl fun hl=>?_
 refine cast (show (True/\((if false=true then !A.isNone else A.isNone)=true->n_0=n_0)/\((if false=true then !A.isNone else A.isNone)=false->(n_0+n_0)*n_16<=n_140737488355328/\cnRs (appR (raw []) nilR)=t_S []))=_ by kernel_rfl) ?_
 delta n_0 n_140737488355328 t_S n_16
 simp only [zza,zzb,true_and,and_true,and_self,ne_eq,cI_app,cWrtO_app,cWrtS_app,cWrtO_1,cItemO_1,opr_ex,zcast,frz_nil,nil_map,Option.getD_none,Option.getD_some]
 cases A<;>simp
theorem CloneSp_ok (xs:List ByteArray) (hpre:0<xs.length/\xs.length<=1000):FunOK Tryz.prog 166 1 [] [(0,k1 (sS xs))] (·=[(1,k1 (oS xs))]):=by
 refine fun_to (E:=⟨tab,ctOf [],8,[],[(0,[0,5,6,7]),(1,[0,4,5,6,7]),(2,[0,2,5,6,7]),(3,[0,2,5,6,7])],[],[],[],[]⟩) tab_ok mixed Tryz.func166 rfl Tryz.ntmps166 (rvs:=[.tmp 2]) Tryz.results166 rfl fun hl=>?_
 refine cast (show (n_0<xs.length/\((if false=true then true else false)=true->xs.length=n_0)/\((if false=true then true else false)=false->(n_0+xs.length)*n_16<=n_140737488355328/\cnRs (appR (raw []) (typ ByteArray.empty eS xs))=t_S xs))=_ by kernel_rfl) ?_
 delta n_0 n_140737488355328 t_S n_16
 simp only [zza,zzb,true_and,and_true,and_self,ne_eq,cI_app,cWrtO_app,cWrtS_app,cWrtO_1,cItemO_1,opr_ex,zcast,frz_nil,nil_map,Option.getD_none,Option.getD_some]
 refine ⟨hpre.1,fun h=>by simp at h,fun _=>⟨by omega,?_⟩⟩
 simp
theorem CloneIz_ok (A:Option Addr) (q:Nat):FunOK Tryz.prog 90 1 [] [(0,k1 (.vl (.slice A 0 q)))] (·=[(1,k1 (oI []))]):=by
 refine fun_to (E:=⟨tab,ctOf [],8,[],[(0,[0,5,6,7]),(1,[0,4,5,6,7]),(2,[0,2,5,6,7]),(3,[0,2,5,6,7])],[],[],[],[]⟩) tab_ok mixed Tryz.func90 rfl Tryz.ntmps90 (rvs:=[.tmp 2]) Tryz.results90 rfl fun hl=>?_
 refine cast (show (True/\((if false=true then !A.isNone else A.isNone)=true->n_0=n_0)/\((if false=true then !A.isNone else A.isNone)=false->(n_0+n_0)*n_8<=n_140737488355328/\cnRs (appR (raw []) nilR)=t_I []))=_ by kernel_rfl) ?_
 delta t_I n_0 n_8 n_140737488355328
 simp only [zza,zzb,true_and,and_true,and_self,ne_eq,cI_app,cWrtO_app,cWrtS_app,cWrtO_1,cItemO_1,opr_ex,zcast,frz_nil,nil_map,Option.getD_none,Option.getD_some]
 cases A<;>simp
theorem CloneS_ok (xs:List ByteArray) (hpre:xs.length<=1000):FunOK Tryz.prog 166 1 [] [(0,k1 (sS xs))] (·=[(1,k1 (oS xs))]):=by
 rcases Nat.eq_zero_or_pos xs.length with h | h
 ·obtain rfl:=List.length_eq_zero_iff.1 h
  exact FunOK.sh0 rfl CloneSz_ok
 ·exact CloneSp_ok xs ⟨h,hpre⟩
def CloneS_c:Con Tryz.prog:=conP [.lend] fun (b:List ByteArray) h=>CloneS_ok b h
theorem CloneI_ok (xs:List Int) (hpre:xs.length<=1000):FunOK Tryz.prog 90 1 [] [(0,k1 (sI xs))] (·=[(1,k1 (oI xs))]):=by
 rcases Nat.eq_zero_or_pos xs.length with h | h
 ·obtain rfl:=List.length_eq_zero_iff.1 h
  exact FunOK.sh0 rfl CloneIz_ok
 ·exact slices_Clone_int_ok xs ⟨h,hpre⟩
def CloneI_c:Con Tryz.prog:=conP [.lend] fun (b:List Int) h=>CloneI_ok b h
theorem impl_writesOf_ok (ws:List Wrt) (hpre:ws.length<=1000/\∀ w∈ws,w.val.length<=1000):FunOK Tryz.prog 167 1 [] [(0,k1 (sWrts ws))] (·=[(1,k1 (oWrts ws))]):=by
 refine fun_to (E:=⟨tab,ctOf [CloneI_c],25,[],[(0,[0,3,12,14,16,19,20,21,22]),(1,[0,3,12,14,16,19,20,21,22]),(2,[0,3,6,7,8,12,14,16,19,20,21,22]),(3,[0,3,6,7,8,9,12,14,16,19,20,21,22]),(4,[0,3,5,6,7,8,12,14,16,19,20,21,22]),(5,[0,3,6,7,8,12,14,16,19,20,21,22]),(6,[0,3,6,7,8,12,14,16,19,20,21,22]),(7,[2,3,12,14,16,19,20,21,22,24])],[(0,⟨List Wrt×Nat,fun x=>[(0,(k1 (.sh 102 (typ dWrt eWrtS ws)))),(3,(k1 (oWrts (x.1)))),(6,(k1 (.sh 102 (typ dWrt eWrtS ws)))),(7,(k1 (.n .i64 ((↑ws.length:Int))))),(8,(k1 (.n .i64 (x.2:Int))))]⟩)],[(7,[(1000000,[])])],[],[]⟩) tab_ok mixed Tryz.func167 rfl Tryz.ntmps167 (rvs:=[.tmp 2]) Tryz.results167 rfl fun hl=>?_
 refine cast (show (∃ (pre:List Wrt×Nat->Prop),∃ (μ:List Wrt×Nat->Nat),∃ (x0:List Wrt×Nat),(q_c ws ws/\x0.1.length=n_0/\q_c ws ws/\zi ws.length=zi ws.length/\i_0=zi x0.2)/\pre x0/\∀ (x:List Wrt×Nat),pre x->(decide (zi x.2<zi ws.length)=true->(i_0<=zi x.2/\zi x.2<zi ws.length)/\∃ (b:List Int),q_I (g_Wrt ws x.2).val b/\b.length<=n_1000/\(x.1.length+n_1)*n_48<=n_140737488355328/\∃ (y:List Wrt×Nat),(q_c ws ws/\cnRs (appR (typ dWrt eWrtO x.1) (raw [[CV.s (g_Wrt ws x.2).key,CV.b (g_Wrt ws x.2).del,CV.ow n_3 (typ i_0 eI b)]]))=t_d y.1/\q_c ws ws/\zi ws.length=zi ws.length/\wr_ ((zi x.2)+i_1)=zi y.2)/\pre y/\μ y<μ x)/\(decide (zi x.2<zi ws.length)=false->q_d x.1 ws))=_ by kernel_rfl) ?_
 delta i_0 i_1 wr_ zi t_I q_I n_0 n_140737488355328 n_1 n_3 g_Wrt t_c q_c n_1000 t_d q_d n_48
 obtain ⟨p1,p2⟩:=hpre
 simp only [zza,zzb,true_and,and_true,and_self,ne_eq,cI_app,cWrtO_app,cWrtS_app,cWrtO_1,cItemO_1,opr_ex,zcast,frz_nil,nil_map,Option.getD_none,Option.getD_some]
 refine ⟨fun x=>x.2<=ws.length/\x.1=ws.take x.2,fun x=>ws.length-x.2,[],rfl,⟨by omega,rfl⟩,fun a i hp=>?_⟩
 obtain ⟨h1,h2⟩:=hp
 simp only at h1 h2
 subst h2
 refine ⟨fun hlt=>?_,fun hge=>?_⟩
 ·have hm:ws.getD i dWrt∈ws:=by rw [getD_lt (by omega)];exact List.getElem_mem _
  exact ⟨by omega,hlt,p2 _ hm,by rw [List.length_take];omega,i+1,wrapN (by omega),⟨by simp only;omega,(take_succ (d:=dWrt) (by omega)).symm⟩,by simp only;omega⟩
 ·have:i=ws.length:=by omega
  subst this
  simp
def impl_writesOf_c:Con Tryz.prog:=⟨167,1,[.lend],[],List Wrt,some fun b=>b.length<=1000/\∀ w∈b,w.val.length<=1000,fun b=>[(0,k1 (sWrts b))],fun b=>[(1,k1 (oWrts b))],[],fun b h=>impl_writesOf_ok b h⟩
theorem impl_LogNote_copied_ok (n:Note) (hpre:smallN n):FunOK Tryz.prog 128 1 [] [(0,kNoteS n)] (·=[(1,kNoteO n)]):=by
 refine fun_to (E:=⟨tab,ctOf [CloneS_c,impl_writesOf_c],14,[],[(0,[1,2,4,6,9,12,13]),(1,[2,4,6,9,12,13])],[],[],[],[]⟩) tab_ok mixed Tryz.func128 rfl Tryz.ntmps128 (rvs:=[.cell 2 107]) Tryz.results128 rfl fun hl=>?_
 refine cast (show (∃ (b:List ByteArray),q_S n.locks b/\b.length<=n_1000/\∃ (b_1:List Wrt),q_c n.writes b_1/\(b_1.length<=n_1000/\∀ (w:Wrt),w∈b_1->w.val.length<=n_1000)/\n.kind=n.kind/\n.tx=n.tx/\q_S b n.locks/\q_d b_1 n.writes)=_ by kernel_rfl) ?_
 delta t_c q_c n_1000 t_S t_d q_S q_d
 obtain ⟨p1,p2,p3⟩:=hpre
 simp only [zza,zzb,true_and,and_true,and_self,ne_eq,cI_app,cWrtO_app,cWrtS_app,cWrtO_1,cItemO_1,opr_ex,zcast,frz_nil,nil_map,Option.getD_none,Option.getD_some]
 exact ⟨p1,p2,p3⟩
def impl_LogNote_copied_c:Con Tryz.prog:=conP [.lend] fun (b:Note) h=>impl_LogNote_copied_ok b h
theorem impl_LogDisk_copied_ok (d:Disk) (hpre:smallD d):FunOK Tryz.prog 89 1 [] [(0,kDiskS d)] (·=[(1,kDiskO d)]):=by
 refine fun_to (E:=⟨tab,ctOf [impl_LogNote_copied_c],25,[],[(0,[1,2,3,24]),(1,[1,2,3,24]),(2,[1,2,3,9,10,11,12,24]),(3,[1,2,3,9,10,11,12,13,24]),(4,[1,2,3,5,9,10,11,12,24]),(5,[1,2,3,9,10,11,12,24]),(6,[1,2,3,9,10,11,12,24]),(7,[2,3,24])],[(0,⟨List Note×Nat,fun x=>[(1,⟨.box,[.c (.sh 107 (typ dNote eNoteS d.notes)),.c (.n .i64 d.safe)],[]⟩),(2,⟨.box,[.c (.ow 107 nilR),.c (.n .i64 ((0:Int)))],[]⟩),(3,⟨.box,[.c (oNotes (x.1)),.c (.n .i64 d.safe)],[]⟩),(9,⟨.one,[.pr 1 0 0],[]⟩),(10,(k1 (.sh 107 (typ dNote eNoteS d.notes)))),(11,(k1 (.n .i64 ((↑d.notes.length:Int))))),(12,(k1 (.n .i64 (x.2:Int))))]⟩)],[],[],[]⟩) tab_ok mixed Tryz.func89 rfl Tryz.ntmps89 (rvs:=[.cell 2 35]) Tryz.results89 rfl fun hl=>?_
 refine cast (show (let k_3:Prop:=n_1=n_1/\n_0=n_0/\true=true;let k_2:Prop:=q_e d.notes d.notes/\d.safe=d.safe;let k_1:Prop:=zi d.notes.length=zi d.notes.length;∃ (pre:List Note×Nat->Prop),∃ (μ:List Note×Nat->Nat),∃ (x0:List Note×Nat),(k_2/\(cnRs nilR=cnRs nilR/\i_0=i_0)/\(cnRs nilR=t_f x0.1/\d.safe=d.safe)/\k_3/\q_e d.notes d.notes/\k_1/\i_0=zi x0.2)/\pre x0/\(∀ (x:List Note×Nat),pre x->(decide (zi x.2<zi d.notes.length)=true->(i_0<=zi x.2/\zi x.2<zi d.notes.length)/\(∃ (b:Note),((g_Note d.notes x.2).kind=b.kind/\(g_Note d.notes x.2).tx=b.tx/\q_S (g_Note d.notes x.2).locks b.locks/\q_c (g_Note d.notes x.2).writes b.writes)/\smallN b/\(x.1.length+n_1)*n_64<=n_140737488355328/\(∃ (y:List Note×Nat),(k_2/\(cnRs nilR=cnRs nilR/\i_0=i_0)/\(cnRs (appR (typ dNote eNoteO x.1) (raw [[cn_ b.kind,cn_ b.tx,CV.ow n_9 (typ ByteArray.empty eS b.locks),CV.ow n_102 (typ dWrt eWrtO b.writes)]]))=t_f y.1/\d.safe=d.safe)/\k_3/\q_e d.notes d.notes/\k_1/\wr_ ((zi x.2)+i_1)=zi y.2)/\pre y/\μ y<μ x)))/\(decide (zi x.2<zi d.notes.length)=false->q_f x.1 d.notes/\d.safe=d.safe)))=_ by kernel_rfl) ?_
 delta i_0 i_1 wr_ zi n_0 n_140737488355328 n_1 t_c q_c cn_ t_S q_S g_Note t_e q_e t_f q_f n_64 n_9 n_102
 obtain ⟨p1,p2⟩:=hpre
 simp only [zza,zzb,true_and,and_true,and_self,ne_eq,cI_app,cWrtO_app,cWrtS_app,cWrtO_1,cItemO_1,opr_ex,zcast,frz_nil,nil_map,Option.getD_none,Option.getD_some]
 refine ⟨fun x=>x.2<=d.notes.length/\x.1=d.notes.take x.2,⟨by omega,rfl⟩,fun x=>d.notes.length-x.2,fun a i hp=>?_⟩
 obtain ⟨h1,h2⟩:=hp
 simp only at h1 h2
 subst h2
 refine ⟨fun hlt=>?_,fun hge=>?_⟩
 ·have hm:d.notes.getD i dNote∈d.notes:=by rw [getD_lt (by omega)];exact List.getElem_mem _
  refine ⟨by omega,hlt,p2 _ hm,by rw [List.length_take];omega,d.notes.take (i+1),?_,i+1,wrapN (by omega),⟨by simp only;omega,rfl⟩,by simp only;omega⟩
  rw [take_succ (d:=dNote) (by omega)]
  simp
 ·have:i=d.notes.length:=by omega
  subst this
  simp
def impl_LogDisk_copied_c:Con Tryz.prog:=conP [.lend] fun (b:Disk) h=>impl_LogDisk_copied_ok b h
def impl_of_c:Con Tryz.prog:=con0 [.lend,.lend] fun b:Disk×Int=>impl_of_ok b.1 b.2
theorem any_flipI (a:List Int) (n:Int):(a.any fun x=>n==x)=a.any fun x=>x==n:=by
 congr 1;funext x;rw [Bool.eq_iff_iff,beq_iff_eq,beq_iff_eq];exact eq_comm
end Go.Proofs.AI
namespace Go.Proofs.AI
open Go.RowKit Go.Proofs
set_option linter.unusedVariables false
set_option linter.unusedSimpArgs false
set_option maxRecDepth 100000
def addI (d:Disk) (n:Note) (s:Bool):Disk:=if d.notes.length=120 then d else ⟨d.notes++[n],if s=true then (d.notes.length:Int)+1 else d.safe⟩
theorem impl_LogDisk_add_ok (d:Disk) (n:Note) (s:Bool) (hpre:smallN n/\d.notes.length<=1000):FunOK Tryz.prog 135 3 [0] [(0,⟨.box,cKDiskO d,[]⟩),(1,kNoteS n),(2,kB s)] (·=[(3,kB (!decide (d.notes.length=120))),(0,⟨.box,cKDiskO (addI d n s),[]⟩)]):=by
 refine fun_to (E:=⟨tab,ctOf [impl_LogNote_copied_c],33,[0],[(0,[0,2,4]),(1,[0,2,4,12]),(2,[0,6]),(3,[0,2]),(4,[0,24]),(5,[0]),(6,[0,6])],[],[],[],[]⟩) tab_ok mixed Tryz.func135 rfl Tryz.ntmps135 (rvs:=[.tmp 6]) Tryz.results135 rfl fun hl=>?_
 refine cast (show (let k_1:Prop:=true=!decide (d.notes.length=n_120);((zi d.notes.length==i_120)=true->false=!decide (d.notes.length=n_120)/\q_f d.notes (addI d n s).notes/\d.safe=(addI d n s).safe)/\((zi d.notes.length==i_120)=false->∃ (b:Note),let k_2:Prop:=cnRs (appR (typ dNote eNoteO d.notes) (raw [[cn_ b.kind,cn_ b.tx,CV.ow n_9 (typ ByteArray.empty eS b.locks),CV.ow n_102 (typ dWrt eWrtO b.writes)]]))=t_f (addI d n s).notes;(n.kind=b.kind/\n.tx=b.tx/\q_S n.locks b.locks/\q_c n.writes b.writes)/\smallN b/\(d.notes.length+n_1)*n_64<=n_140737488355328/\(s=true->k_1/\k_2/\(zi (d.notes.length+n_1))=(addI d n s).safe)/\(s=false->k_1/\k_2/\d.safe=(addI d n s).safe)))=_ by kernel_rfl) ?_
 delta zi n_140737488355328 n_1 t_c q_c cn_ t_S q_S i_120 t_f q_f n_64 n_9 n_102 n_120
 simp only [zza,zzb,true_and,and_true,and_self,ne_eq,cI_app,cWrtO_app,cWrtS_app,cWrtO_1,cItemO_1,opr_ex,zcast,frz_nil,nil_map,Option.getD_none,Option.getD_some]
 refine ⟨fun h=>?_,fun h=>?_⟩
 ·have h:d.notes.length=120:=by omega
  simp [addI,h]
 ·have h:¬ d.notes.length=120:=by omega
  refine ⟨hpre.1,by omega,fun hs=>?_,fun hs=>?_⟩<;>simp [addI,h,hs]
def impl_LogDisk_add_c:Con Tryz.prog:=conP [.ptr,.lend,.lend] fun (b:Disk×Note×Bool) h=>impl_LogDisk_add_ok (b.1) (b.2.1) (b.2.2) h
end Go.Proofs.AI
namespace Go.Proofs.AI
open Go.RowKit
set_option linter.unusedVariables false
set_option linter.unusedSimpArgs false
def eqFs2 (P:Program):List CK->Nat->List Field->Bool
 | ks,_,[]=>ks.isEmpty
 | ks,j,f::fs=>(f.name != "_")&&f.offset==j&&match P.underlying f.type with
  | some (.struct gs)=>!P.stoodInHeld f.type&&decide (gs.size<=ks.length)&&decide ((P.info? f.type).map (·.size)=some gs.size)&&eqFs P (ks.take gs.size) 0 gs.toList&&eqFs2 P (ks.drop gs.size) (j+gs.size) fs
  | u=>match ks with
   | k::ks=>ckOf u k&&eqFs2 P ks (j+1) fs
   | []=>false
theorem areCK_app:∀ {ks ks':List CK} {xs:List Value},areCK (ks++ks') xs->areCK ks (xs.take ks.length)/\areCK ks' (xs.drop ks.length)
 | [],_,_,h=>⟨trivial,h⟩
 | _::_,_,[],h=>h.elim
 | _::ks,_,_::xs,h=>⟨⟨h.1,(areCK_app h.2).1⟩,(areCK_app h.2).2⟩
theorem eqL_app:∀ {a b:List Value} {c d:List Value},a.length=b.length->c.length=d.length->eqL (a++c) (b++d)=(eqL a b&&eqL c d)
 | [],[],c,d,_,_=>by simp [eqL]
 | x::a,y::b,c,d,h,h2=>by
  have h:a.length=b.length:=by simpa using h
  rw [List.cons_append,List.cons_append,eqL_cons (by simp [h,h2]),eqL_cons h,eqL_app h h2,Bool.and_assoc]
theorem run_eqFields2 {P:Program} {w:World} {xs ys:Array Value} (d:Nat):∀ (fs:List Field) (ks:List CK) (j:Nat) (a b:List Value),eqFs2 P ks j fs=true->xs.toList.drop j=a->ys.toList.drop j=b->areCK ks a->areCK ks b ->
  (Op.eqFields (d+2) xs ys fs).run P w=.ok (eqL a b) w
 | [],ks,j,a,b,h,hx,hy,ha,hb=>by
  have hk:ks=[]:=by simpa [eqFs2] using h
  subst hk
  cases a with
  | cons x a=>exact ha.elim
  | nil=>cases b with
   | cons y b=>exact hb.elim
   | nil=>simp [Op.eqFields,eqL]
 | f::fs,ks,j,a,b,h,hx,hy,ha,hb=>by
  simp only [eqFs2,Bool.and_eq_true,bne_iff_ne,beq_iff_eq] at h
  obtain ⟨⟨h1,h2⟩,h3⟩:=h
  split at h3
  ·rename_i gs hu
   simp only [Bool.and_eq_true,Bool.not_eq_true',decide_eq_true_eq] at h3
   obtain ⟨⟨⟨⟨g1,g2⟩,g3⟩,g4⟩,g5⟩:=h3
   obtain ⟨inf,e1,e2⟩:=Option.map_eq_some_iff.1 g3
   have hl:(ks.take gs.size).length=gs.size:=by rw [List.length_take];omega
   have hka:areCK (ks.take gs.size++ks.drop gs.size) a:=by rw [List.take_append_drop];exact ha
   have hkb:areCK (ks.take gs.size++ks.drop gs.size) b:=by rw [List.take_append_drop];exact hb
   obtain ⟨a1,a2⟩:=areCK_app hka
   obtain ⟨b1,b2⟩:=areCK_app hkb
   rw [hl] at a1 a2 b1 b2
   have hp:∀ (zs:Array Value) (c:List Value),zs.toList.drop j=c->(part f.type zs f.offset).run P w=.ok (.agg (zs.extract j (j+gs.size))) w:=fun zs c _=>by
    have hs:(sizeOf f.type).run P w=.ok gs.size w:=by simp [sizeOf,typeInfo,e1,e2]
    simp [part,isAgg,run_underlying hu,TypeDesc.isRow,h2,hs]
   have hxs:(xs.extract j (j+gs.size)).toList=a.take gs.size:=by simp [<- hx]
   have hys:(ys.extract j (j+gs.size)).toList=b.take gs.size:=by simp [<- hy]
   have hf:P.fieldsOf f.type=gs:=by simp [Program.fieldsOf,hu]
   have he:(Op.equalIn (d+2) f.type (.agg (xs.extract j (j+gs.size))) (.agg (ys.extract j (j+gs.size)))).run P w=.ok (eqL (a.take gs.size) (b.take gs.size)) w:=by
    rw [run_equalIn_struct w (d+1) f.type _ _ (by rw [hf];exact hu) g1,hf]
    exact run_eqFields d _ 0 gs.toList _ _ g4 (by simpa using hxs) (by simpa using hys) a1 b1
   have la:=areCK_length a1
   have lb:=areCK_length b1
   have la2:=areCK_length a2
   have lb2:=areCK_length b2
   have hab:eqL a b=(eqL (a.take gs.size) (b.take gs.size)&&eqL (a.drop gs.size) (b.drop gs.size)):=by
    rw [<- eqL_app (by omega) (by omega),List.take_append_drop,List.take_append_drop]
   rw [hab]
   simp only [Op.eqFields,h1,ne_eq,not_false_eq_true,if_true,Sem.run_bind,hp xs a hx,hp ys b hy,Result.andThen_ok,he]
   cases hc:eqL (a.take gs.size) (b.take gs.size)
   ·simp
   ·simpa using run_eqFields2 d fs (ks.drop gs.size) (j+gs.size) (a.drop gs.size) (b.drop gs.size) g5 (by rw [<- hx,List.drop_drop]) (by rw [<- hy,List.drop_drop]) a2 b2
  ·cases ks with
   | nil=>cases h3
   | cons k ks =>
    simp only [Bool.and_eq_true] at h3
    obtain ⟨h3,h4⟩:=h3
    cases a with
    | nil=>exact ha.elim
    | cons x a=>cases b with
     | nil=>exact hb.elim
     | cons y b =>
      have gx:xs[j]?=some x:=by
       have:=congrArg (·[0]?) hx
       simpa using this
      have gy:ys[j]?=some y:=by
       have:=congrArg (·[0]?) hy
       simpa using this
      have dx:xs.toList.drop (j+1)=a:=by rw [<- List.drop_drop,hx]<;>rfl
      have dy:ys.toList.drop (j+1)=b:=by rw [<- List.drop_drop,hy]<;>rfl
      have hl:a.length=b.length:=by rw [<- areCK_length ha.2,<- areCK_length hb.2]
      rw [eqL_cons hl]
      simp only [Op.eqFields,h1,ne_eq,not_false_eq_true,if_true,Sem.run_bind,h2,run_part_ck h3 gx,run_part_ck h3 gy,Result.andThen_ok,run_eq_ck h3 ha.1 hb.1 (d+1)]
      cases hc:eqC x y
      ·simp
      ·simpa using run_eqFields2 d fs ks (j+1) a b h4 dx dy ha.2 hb.2
def eqT2 (P:Program) (t:TypeId) (ks:List CK):Bool:=!P.stoodInHeld t&&!P.eqGuardType P.depth t&&match P.underlying t with
 | some (.struct fs)=>eqFs2 P ks 0 fs.toList
 | _=>false
theorem eqT2_ok {P:Program} {t:TypeId} {ks:List CK} (h:eqT2 P t ks=true) (w:World) (xs ys:Array Value) (ex ey:Operand) (hx:areCK ks xs.toList) (hy:areCK ks ys.toList) :
  (do eqGuard .eql t ex ey (.agg xs) (.agg ys);binOp .eql t (.agg xs) (.agg ys):Sem Value).run P w=.ok (.bool (eqL xs.toList ys.toList)) w /\
  (do eqGuard .neq t ex ey (.agg xs) (.agg ys);binOp .neq t (.agg xs) (.agg ys):Sem Value).run P w=.ok (.bool (!eqL xs.toList ys.toList)) w:=by
 simp only [eqT2,Bool.and_eq_true,Bool.not_eq_true'] at h
 obtain ⟨⟨h1,h2⟩,h3⟩:=h
 split at h3
 ·rename_i fs hu
  have hf:P.fieldsOf t=fs:=by simp [Program.fieldsOf,hu]
  have he:(Op.equalIn 10000 t (.agg xs) (.agg ys)).run P w=.ok (eqL xs.toList ys.toList) w:=by
   rw [run_equalIn_struct w 9999 t xs ys (by rw [hf];exact hu) h1,hf]
   exact run_eqFields2 9997 fs.toList ks 0 _ _ h3 rfl rfl hx hy
  constructor
  ·simp only [Sem.run_bind,run_eqGuard_agg _ _ _ _ _ _ _ h2,Result.andThen_ok,run_eql_struct,he]
  ·simp only [Sem.run_bind,run_eqGuard_agg _ _ _ _ _ _ _ h2,Result.andThen_ok,run_neq_struct,he]
 ·cases h3
theorem tabOf_eq2 {P:Program} {t:TypeId} {i:TyI} (h:tabOf P t=some { i with els:=[],eq:=[] }) (he:eqT2 P t i.eq=true):TyOk P t i:=by
 have:=tabOf_ok t _ h
 exact ⟨this.info,fun hne w xs ys ex ey h1 h2=>eqT2_ok he w xs ys ex ey h1 h2,this.desc⟩
end Go.Proofs.AI
namespace Go.Proofs.AI
open Go.RowKit Go.Proofs
set_option linter.unusedVariables false
set_option linter.unusedSimpArgs false
set_option maxRecDepth 100000
abbrev noteK (l:List Int) (p:Nat):Int:=[1,1,2,3,4].getD (pickB l p 5).toNat 0
def note0 (l:List Int) (p:Nat):Note×Nat :=
 if noteK l p=1 then (let w:=wrtsD l (p+2) 0
  if pickB l w.2 2=0 then (⟨1,pickB l (p+1) 5,w.1.map Wrt.key++[(keyD l (w.2+1) 0).1],w.1⟩,(keyD l (w.2+1) 0).2) else (⟨1,pickB l (p+1) 5,w.1.map Wrt.key,w.1⟩,w.2+1))
 else (⟨noteK l p,pickB l (p+1) 5,[],[]⟩,p+2)
def noteBent (l:List Int) (p:Nat) (x:Note):Note×Nat :=
 let k:=pickB l p 5
 if k=0 then (⟨[0,5].getD (pickB l (p+1) 2).toNat 0,x.tx,x.locks,x.writes⟩,p+2)
 else if k=1 then (⟨x.kind,[-1,30].getD (pickB l (p+1) 2).toNat 0,x.locks,x.writes⟩,p+2)
 else if k=2 then (⟨x.kind,x.tx,x.locks++[⟨#[]⟩],x.writes⟩,p+1)
 else if k=3 then (⟨x.kind,x.tx,x.locks,x.writes++[⟨⟨#[122,49]⟩,false,[1]⟩]⟩,p+1)
 else (⟨x.kind,x.tx,x.locks,x.writes++[(wrtD l (p+1) 1).1]⟩,(wrtD l (p+1) 1).2)
def noteD (l:List Int) (p:Nat) (n:Int):Note×Nat :=
 let a:=note0 l p
 let q:=oddB l a.2 n
 if q.1=true then noteBent l q.2 a.1 else (a.1,q.2)
def evtD (l:List Int) (p nl ol:Nat):Evt×Nat :=
 let a:=pickB l p 16
 let h:=fun q:Nat=>((⟨2,dOpr,[0,pickB l q (nl+1)].getD (pickB l (q+1) 2).toNat 0,0,0⟩:Evt),q+2)
 if a=0∨a=1∨a=2 then (⟨1,(opB l (p+1) 0).1,0,0,0⟩,(opB l (p+1) 0).2)
 else if a=3 then (⟨[3,4].getD (pickB l (p+1) 2).toNat 0,dOpr,pickB l (p+2) (nl+1),0,0⟩,p+3)
 else if a=4 then (⟨5,dOpr,0,pickB l (p+1) 4,0⟩,p+2)
 else if a=5 then (if pickB l (p+1) 3=0 then (⟨6,dOpr,pickB l (p+2) (ol+1),0,0⟩,p+3)
  else if pickB l (p+2) 2=0 then (⟨7,dOpr,0,pickB l (p+3) 4,pickB l (p+4) 3⟩,p+5)
  else h (p+3))
 else h (p+1)
theorem note0_le {l:List Int} {p:Nat} (h:rdB l p 90):(note0 l p).2<=p+89/\(note0 l p).1.locks.length<=7/\(note0 l p).1.writes.length<=6:=by
 have hw:=wrts_le (l:=l) (p:=p+2) 0 (rdB_le h (by omega))
 have hk:=key_le l ((wrtsD l (p+2) 0).2+1) 0
 simp only [note0]
 repeat' split
 all_goals simp<;>omega
theorem noteD_eq (l:List Int) (p:Nat) (n:Int):noteD l p n=if (oddB l (note0 l p).2 n).1=true then noteBent l (oddB l (note0 l p).2 n).2 (note0 l p).1 else ((note0 l p).1,(oddB l (note0 l p).2 n).2):=rfl
theorem noteD_le {l:List Int} {p:Nat} (n:Int) (h:rdB l p 110):(noteD l p n).2<=p+110/\(noteD l p n).1.locks.length<=8/\(noteD l p n).1.writes.length<=7:=by
 obtain ⟨n1,n2,n3⟩:=note0_le (l:=l) (p:=p) (rdB_le h (by omega))
 have ho:=odd_le l (note0 l p).2 n
 have hw:=wrt_le (l:=l) (p:=(oddB l (note0 l p).2 n).2+1) 1 (rdB_le h (by omega))
 rw [noteD_eq]
 split
 ·simp only [noteBent]
  repeat' split
  all_goals simp<;>omega
 ·simp only;omega
theorem spec_l20Note_ok (l:List Int) (p:Nat) (n:Int) (hpre:rdB l p 120/\n<1000000):FunOK Tryz.prog 148 2 [0] [(0,kRd l p),(1,kI n)] (·=[(2,kNoteO (noteD l p n).1),(0,kRd l (noteD l p n).2)]):=by
 refine fun_to (E:=⟨tab,ctOf [spec_rd_pick_c,spec_rd_odd_c,spec_l20Writes_c,spec_l20Key_c,spec_l20Write_c],94,[0],[(0,[0,1,4,5,93]),(1,[0,1,4,5,93]),(2,[0,1,4,5,17,93]),(3,[0,1,4,5,93]),(4,[0,1,4,5,6,93]),(5,[0,1,4,5,6,25,93]),(6,[0,1,4,5,6,93]),(7,[0,1,4,5,6,93]),(8,[0,1,4,5,41,93]),(9,[0,1,4,5,93]),(10,[0,4,5,51,93]),(11,[0,4,5,53,93]),(12,[0,4,5,93]),(13,[0,4,5,53,61,93]),(14,[0,4,5,93]),(15,[0,4,5,53,69,93]),(16,[0,4,5,93]),(17,[0,4,5,53,77,93]),(18,[0,4,5,93]),(19,[0,4,5,84,93]),(20,[0,4,5,93]),(21,[0,4,5,93])],[(0,⟨List Int×Nat×Int×Int×List ByteArray×List Wrt×Nat,fun x=>[(0,⟨.box,[.c (sU (x.1)),.c (.n .i64 (x.2.1:Int))],[]⟩),(1,(k1 (.n .i64 n))),(4,⟨.box,[.c (.n .i64 ((0:Int))),.c (.n .i64 ((0:Int))),.c (.ow 9 nilR),.c (.ow 102 nilR)],[]⟩),(5,⟨.box,[.c (.n .i64 (x.2.2.1)),.c (.n .i64 (x.2.2.2.1)),.c (oS (x.2.2.2.2.1)),.c (oWrts (x.2.2.2.2.2.1))],[]⟩),(6,(k1 (.n .i64 (x.2.2.2.2.2.2:Int))))]⟩)],[],[(30002,⟨List Int×Nat×Int×Int×List ByteArray×List Wrt,fun x=>[(0,⟨.box,[.c (sU (x.1)),.c (.n .i64 (x.2.1:Int))],[]⟩),(1,(k1 (.n .i64 n))),(4,⟨.box,[.c (.n .i64 ((0:Int))),.c (.n .i64 ((0:Int))),.c (.ow 9 nilR),.c (.ow 102 nilR)],[]⟩),(5,⟨.box,[.c (.n .i64 (x.2.2.1)),.c (.n .i64 (x.2.2.2.1)),.c (oS (x.2.2.2.2.1)),.c (oWrts (x.2.2.2.2.2))],[]⟩)]⟩)],[]⟩) tab_ok mixed Tryz.func148 rfl Tryz.ntmps148 (rvs:=[.cell 4 107]) Tryz.results148 rfl fun hl=>?_
 refine cast (show (let k_1:Prop:=i_0=i_0/\i_0=i_0/\cnRs nilR=cnRs nilR/\cnRs nilR=cnRs nilR;∃ (b:y_6),((q_U l b.1/\zi p=zi b.2.1)/\i_5=b.2.2)/\rdB b.1 b.2.1 n_1/\(i_0<=pickB b.1 b.2.1 b.2.2/\pickB b.1 b.2.1 b.2.2<zi n_5)/\(pickB b.1 b.2.1 b.2.2).toNat<n_5/\(∃ (b_1:y_6),((q_U b.1 b_1.1/\(zi (b.2.1+n_1))=zi b_1.2.1)/\i_5=b_1.2.2)/\rdB b_1.1 b_1.2.1 n_1/\(∃ (post:y_25->Prop),((([i_1,i_1,i_2,i_3,i_4].getD (pickB b.1 b.2.1 b.2.2).toNat i_0==i_1)=true->∃ (b_2:y_6),((q_U b_1.1 b_2.1/\(zi (b_1.2.1+n_1))=zi b_2.2.1)/\i_0=b_2.2.2)/\(rdB b_2.1 b_2.2.1 n_80/\b_2.2.2<i_1000000)/\(∃ (pre:y_24->Prop),∃ (μ:y_24->Nat),∃ (x0:y_24),((q_U b_2.1 x0.1/\(zi (wrtsD b_2.1 b_2.2.1 b_2.2.2).2)=zi x0.2.1)/\n=n/\k_1/\([i_1,i_1,i_2,i_3,i_4].getD (pickB b.1 b.2.1 b.2.2).toNat i_0=x0.2.2.1/\pickB b_1.1 b_1.2.1 b_1.2.2=x0.2.2.2.1/\cnRs nilR=t_S x0.2.2.2.2.1/\q_d (wrtsD b_2.1 b_2.2.1 b_2.2.2).1 x0.2.2.2.2.2.1)/\i_0=zi x0.2.2.2.2.2.2)/\pre x0/\(∀ (x:y_24),let k_2:Prop:=(x.2.2.2.2.1.length+n_1)*n_16<=n_140737488355328;pre x->(decide (zi x.2.2.2.2.2.2<zi x.2.2.2.2.2.1.length)=true->(i_0<=zi x.2.2.2.2.2.2/\zi x.2.2.2.2.2.2<zi x.2.2.2.2.2.1.length)/\(zi x.2.2.2.2.2.2).toNat<x.2.2.2.2.2.1.length/\k_2/\(∃ (y:y_24),((q_U x.1 y.1/\zi x.2.1=zi y.2.1)/\n=n/\k_1/\(x.2.2.1=y.2.2.1/\x.2.2.2.1=y.2.2.2.1/\cnRs (appR (typ ByteArray.empty eS x.2.2.2.2.1) (typ ByteArray.empty (fun (y:ByteArray)=>[CV.s y]) [(g_Wrt x.2.2.2.2.2.1 x.2.2.2.2.2.2).key]))=t_S y.2.2.2.2.1/\q_d x.2.2.2.2.2.1 y.2.2.2.2.2.1)/\wr_ ((zi x.2.2.2.2.2.2)+i_1)=zi y.2.2.2.2.2.2)/\pre y/\μ y<μ x))/\(decide (zi x.2.2.2.2.2.2<zi x.2.2.2.2.2.1.length)=false->∃ (b:y_6),((q_U x.1 b.1/\zi x.2.1=zi b.2.1)/\i_2=b.2.2)/\rdB b.1 b.2.1 n_1/\((pickB b.1 b.2.1 b.2.2==i_0)=true->∃ (b_3:y_6),((q_U b.1 b_3.1/\(zi (b.2.1+n_1))=zi b_3.2.1)/\i_0=b_3.2.2)/\(rdB b_3.1 b_3.2.1 n_6/\b_3.2.2<i_1000000)/\k_2/\(∃ (x_1:y_25),((q_U b_3.1 x_1.1/\(zi (keyD b_3.1 b_3.2.1 b_3.2.2).2)=zi x_1.2.1)/\n=n/\k_1/\x.2.2.1=x_1.2.2.1/\x.2.2.2.1=x_1.2.2.2.1/\cnRs (appR (typ ByteArray.empty eS x.2.2.2.2.1) (typ ByteArray.empty (fun (y:ByteArray)=>[CV.s y]) [(keyD b_3.1 b_3.2.1 b_3.2.2).1]))=t_S x_1.2.2.2.2.1/\q_d x.2.2.2.2.2.1 x_1.2.2.2.2.2)/\post x_1))/\((pickB b.1 b.2.1 b.2.2==i_0)=false->∃ (x_1:y_25),((q_U b.1 x_1.1/\(zi (b.2.1+n_1))=zi x_1.2.1)/\n=n/\k_1/\x.2.2.1=x_1.2.2.1/\x.2.2.2.1=x_1.2.2.2.1/\q_S x.2.2.2.2.1 x_1.2.2.2.2.1/\q_d x.2.2.2.2.2.1 x_1.2.2.2.2.2)/\post x_1)))))/\(([i_1,i_1,i_2,i_3,i_4].getD (pickB b.1 b.2.1 b.2.2).toNat i_0==i_1)=false->∃ (x:y_25),((q_U b_1.1 x.1/\(zi (b_1.2.1+n_1))=zi x.2.1)/\n=n/\k_1/\[i_1,i_1,i_2,i_3,i_4].getD (pickB b.1 b.2.1 b.2.2).toNat i_0=x.2.2.1/\pickB b_1.1 b_1.2.1 b_1.2.2=x.2.2.2.1/\cnRs nilR=t_S x.2.2.2.2.1/\cnRs nilR=t_d x.2.2.2.2.2)/\post x))/\(∀ (x:y_25),let k_9:Prop:=x.2.2.1=(noteD l p n).1.kind;let k_8:Prop:=x.2.2.2.1=(noteD l p n).1.tx;let k_7:Prop:=q_S x.2.2.2.2.1 (noteD l p n).1.locks;let k_6:Prop:=q_d x.2.2.2.2.2 (noteD l p n).1.writes;let k_5:Prop:=(x.2.2.2.2.2.length+n_1)*n_48<=n_140737488355328;let k_4:Prop:=k_7/\k_6;let k_3:Prop:=k_8/\k_4;post x->∃ (b:y_6),((q_U x.1 b.1/\zi x.2.1=zi b.2.1)/\n=b.2.2)/\(rdB b.1 b.2.1 n_1/\b.2.2<i_1000000)/\((oddB b.1 b.2.1 b.2.2).1=true->∃ (b_2:y_6),let k_10:Prop:=q_U b_2.1 l/\(zi (b_2.2.1+n_1))=(zi (noteD l p n).2);((q_U b.1 b_2.1/\(zi (oddB b.1 b.2.1 b.2.2).2)=zi b_2.2.1)/\i_5=b_2.2.2)/\rdB b_2.1 b_2.2.1 n_1/\((pickB b_2.1 b_2.2.1 b_2.2.2==i_0)=true->∃ (b:y_6),((q_U b_2.1 b.1/\(zi (b_2.2.1+n_1))=zi b.2.1)/\i_2=b.2.2)/\rdB b.1 b.2.1 n_1/\(i_0<=pickB b.1 b.2.1 b.2.2/\pickB b.1 b.2.1 b.2.2<zi n_2)/\(pickB b.1 b.2.1 b.2.2).toNat<n_2/\([i_0,i_5].getD (pickB b.1 b.2.1 b.2.2).toNat i_0=(noteD l p n).1.kind/\k_3)/\q_U b.1 l/\(zi (b.2.1+n_1))=(zi (noteD l p n).2))/\((pickB b_2.1 b_2.2.1 b_2.2.2==i_0)=false->((pickB b_2.1 b_2.2.1 b_2.2.2==i_1)=true->∃ (b:y_6),((q_U b_2.1 b.1/\(zi (b_2.2.1+n_1))=zi b.2.1)/\i_2=b.2.2)/\rdB b.1 b.2.1 n_1/\(i_0<=pickB b.1 b.2.1 b.2.2/\pickB b.1 b.2.1 b.2.2<zi n_2)/\(pickB b.1 b.2.1 b.2.2).toNat<n_2/\(k_9/\[(-1:Int),i_30].getD (pickB b.1 b.2.1 b.2.2).toNat i_0=(noteD l p n).1.tx/\k_4)/\q_U b.1 l/\(zi (b.2.1+n_1))=(zi (noteD l p n).2))/\((pickB b_2.1 b_2.2.1 b_2.2.2==i_1)=false->((pickB b_2.1 b_2.2.1 b_2.2.2==i_2)=true->(x.2.2.2.2.1.length+n_1)*n_16<=n_140737488355328/\(k_9/\k_8/\cnRs (appR (typ ByteArray.empty eS x.2.2.2.2.1) (typ ByteArray.empty (fun (y:ByteArray)=>[CV.s y]) [(ByteArray.mk #[])]))=t_S (noteD l p n).1.locks/\k_6)/\k_10)/\((pickB b_2.1 b_2.2.1 b_2.2.2==i_2)=false->((pickB b_2.1 b_2.2.1 b_2.2.2==i_3)=true->k_5/\(k_9/\k_8/\k_7/\cnRs (appR (typ dWrt eWrtO x.2.2.2.2.2) (raw [[CV.s (ByteArray.mk #[(122:UInt8),(49:UInt8)]),CV.b false,CV.ow n_3 (typ i_0 (fun (y:Int)=>[cn_ y]) [i_1])]]))=t_d (noteD l p n).1.writes)/\k_10)/\((pickB b_2.1 b_2.2.1 b_2.2.2==i_3)=false->∃ (b:y_6),((q_U b_2.1 b.1/\(zi (b_2.2.1+n_1))=zi b.2.1)/\i_1=b.2.2)/\(rdB b.1 b.2.1 n_13/\b.2.2<i_1000000)/\k_5/\(k_9/\k_8/\k_7/\cnRs (appR (typ dWrt eWrtO x.2.2.2.2.2) (raw [[CV.s (wrtD b.1 b.2.1 b.2.2).1.key,CV.b (wrtD b.1 b.2.1 b.2.2).1.del,CV.ow n_3 (typ i_0 eI (wrtD b.1 b.2.1 b.2.2).1.val)]]))=t_d (noteD l p n).1.writes)/\q_U b.1 l/\(zi (wrtD b.1 b.2.1 b.2.2).2)=(zi (noteD l p n).2))))))/\((oddB b.1 b.2.1 b.2.2).1=false->(k_9/\k_3)/\q_U b.1 l/\(zi (oddB b.1 b.2.1 b.2.2).2)=(zi (noteD l p n).2))))))=_ by kernel_rfl) ?_
 delta i_0 i_1 i_5 i_2 i_3 i_4 wr_ zi n_140737488355328 n_1 n_3 g_Wrt cn_ t_S t_d n_16 q_S q_d n_2 n_48 i_1000000 t_U q_U y_6 n_5 i_30 n_6 n_13 n_80 y_24 y_25
 have hp:=hpre.1
 have hw:=wrts_le (l:=l) (p:=p+2) 0 (rdB_le hp (by omega))
 obtain ⟨n1,n2,n3⟩:=note0_le (l:=l) (p:=p) (rdB_le hp (by omega))
 have b5:=pick_lt (l:=l) (p:=p) (n:=5) (rdB_le hp (by omega):rdB l p 1) (by omega)
 simp only [zza,zzb,true_and,and_true,and_self,ne_eq,cI_app,cWrtO_app,cWrtS_app,cWrtO_1,cItemO_1,opr_ex,zcast,frz_nil,nil_map,Option.getD_none,Option.getD_some]
 simp only [Nat.add_assoc,Nat.reduceAdd]
 refine ⟨rdB_le hp (by omega),b5.1,b5.2,by omega,rdB_le hp (by omega),fun z=>z=(l,(note0 l p).2,(note0 l p).1.kind,(note0 l p).1.tx,(note0 l p).1.locks,(note0 l p).1.writes),fun hk=>?_,fun hk=>?_,?_⟩
 ·have hk:noteK l p=1:=hk
  refine ⟨rdB_le hp (by omega),by omega,fun x=>x.1=l/\x.2.1=(wrtsD l (p+2) 0).2/\x.2.2.1=noteK l p/\x.2.2.2.1=pickB l (p+1) 5/\x.2.2.2.2.2.1=(wrtsD l (p+2) 0).1/\x.2.2.2.2.2.2<=(wrtsD l (p+2) 0).1.length/\x.2.2.2.2.1=((wrtsD l (p+2) 0).1.take x.2.2.2.2.2.2).map Wrt.key,⟨rfl,rfl,rfl,rfl,rfl,Nat.zero_le _,rfl⟩,fun x=>x.2.2.2.2.2.1.length-x.2.2.2.2.2.2,fun a q k t lo wr b hx=>?_⟩
  obtain ⟨h1,h2,h3,h4,h5,h6,h7⟩:=hx
  simp only at h1 h2 h3 h4 h5 h6 h7
  subst h1 h2 h3 h4 h5
  have hlo:lo.length=b:=by rw [h7];simp;omega
  refine ⟨fun hb=>⟨by omega,hb,by omega,by omega,lo++[((wrtsD a (p+2) 0).1.getD b dWrt).key],by simp,b+1,wrapN (by omega),⟨rfl,rfl,rfl,rfl,rfl,by simp only;omega,?_⟩,by simp only;omega⟩,fun hb=>?_⟩
  ·simp only
   rw [take_succ (d:=dWrt) (by omega),List.map_append,h7]
   rfl
  ·have hb:b=(wrtsD a (p+2) 0).1.length:=by omega
   rw [hb,List.take_length] at h7
   refine ⟨rdB_le hp (by omega),fun h0=>⟨rdB_le hp (by omega),by omega,by omega,lo++[(keyD a ((wrtsD a (p+2) 0).2+1) 0).1],by simp,?_⟩,fun h0=>?_⟩
   ·simp only [note0,if_pos h0,h7,hk,if_true]
   ·simp only [note0,if_neg h0,h7,hk,if_true]
 ·have hk:¬ noteK l p=1:=hk
  simp only [note0,if_neg hk]
 ·intro a q k t lo wr hz
  simp only [Prod.mk.injEq] at hz
  obtain ⟨h1,h2,h3,h4,h5,h6⟩:=hz
  subst h1 h2 h3 h4 h5 h6
  have ho:=odd_le a (note0 a p).2 n
  rw [noteD_eq]
  generalize note0 a p=A at *
  generalize oddB a A.2 n=Q at *
  have b2:=pick_lt (l:=a) (p:=Q.2+1) (n:=2) (rdB_le hp (by omega):rdB a (Q.2+1) 1) (by omega)
  refine ⟨rdB_le hp (by omega),hpre.2,fun hq=>⟨rdB_le hp (by omega),?_⟩,fun hq=>?_⟩
  ·rw [if_pos hq]
   refine ⟨fun h0=>⟨rdB_le hp (by omega),b2.1,b2.2,by omega,?_⟩,fun h0=>⟨fun h1=>⟨rdB_le hp (by omega),b2.1,b2.2,by omega,?_⟩,fun h1=>⟨fun h2=>⟨by omega,?_⟩,fun h2=>⟨fun h3=>⟨by omega,?_⟩,fun h3=>⟨rdB_le hp (by omega),by omega,by omega,?_⟩⟩⟩⟩⟩
   ·simp [noteBent,h0]
   ·simp [noteBent,h1]
   ·simp [noteBent,h2]
   ·simp [noteBent,h3]
   ·simp [noteBent,h0,h1,h2,h3]
  ·rw [hq]
   simp
def spec_l20Note_c:Con Tryz.prog:=conP [.ptr,.lend] fun (b:List Int×Nat×Int) h=>spec_l20Note_ok (b.1) (b.2.1) (b.2.2) h
theorem spec_l20Event_ok (l:List Int) (p:Nat) (nl:Nat) (ol:Nat) (hpre:rdB l p 20/\nl<=1000/\ol<=1000):FunOK Tryz.prog 145 2 [0] [(0,kRd l p),(1,⟨.agg,[.c .any,.c .any,.c .any,.c .any,.c (.ln nl),.c (.ln ol),.c .any],[]⟩)] (·=[(2,kEvt (evtD l p nl ol).1),(0,kRd l (evtD l p nl ol).2)]):=by
 refine fun_to (E:=⟨tab,ctOf [spec_rd_pick_c,spec_l20Op_c],65,[0],[(0,[0,3,4]),(1,[0,3,4,6]),(2,[0,3,4,6,7]),(3,[0,3,4,6,7]),(4,[0,3,4,6,7]),(5,[0,4]),(6,[0,3,4,6,14]),(7,[0,4]),(8,[0,3,4,6,28]),(9,[0,4]),(10,[0,3,4,33]),(11,[0,3,4,37]),(12,[0,4]),(13,[0,3,4,47]),(14,[0,4]),(15,[0,4])],[],[],[],[]⟩) tab_ok mixed Tryz.func145 rfl Tryz.ntmps145 (rvs:=[.cell 4 175]) Tryz.results145 rfl fun hl=>?_
 refine cast (show (let k_11:Prop:=i_0=(evtD l p nl ol).1.at_;let k_10:Prop:=i_1=(evtD l p nl ol).1.kind;let k_9:Prop:=i_0=(evtD l p nl ol).1.op.fam;let k_8:Prop:=i_0=(evtD l p nl ol).1.op.gen;let k_7:Prop:=i_0=(evtD l p nl ol).1.op.inn;let k_6:Prop:=i_0=(evtD l p nl ol).1.op.sec;let k_5:Prop:=i_0=(evtD l p nl ol).1.op.who;let k_4:Prop:=i_0=(evtD l p nl ol).1.op.code;let k_3:Prop:=i_0=(evtD l p nl ol).1.op.kind;let k_2:Prop:=i_0=(evtD l p nl ol).1.place/\i_0=(evtD l p nl ol).1.keep;let k_1:Prop:=k_11/\k_2;∃ (b:y_6),let k_12:Prop:=∃ (b_1:y_6),((q_U b.1 b_1.1/\(zi (b.2.1+n_1))=zi b_1.2.1)/\i_0=b_1.2.2)/\(rdB b_1.1 b_1.2.1 n_8/\b_1.2.2<i_1000000)/\(k_10/\(opB b_1.1 b_1.2.1 b_1.2.2).1.kind=(evtD l p nl ol).1.op.kind/\(opB b_1.1 b_1.2.1 b_1.2.2).1.who=(evtD l p nl ol).1.op.who/\(opB b_1.1 b_1.2.1 b_1.2.2).1.inn=(evtD l p nl ol).1.op.inn/\(opB b_1.1 b_1.2.1 b_1.2.2).1.code=(evtD l p nl ol).1.op.code/\(opB b_1.1 b_1.2.1 b_1.2.2).1.sec=(evtD l p nl ol).1.op.sec/\(opB b_1.1 b_1.2.1 b_1.2.2).1.fam=(evtD l p nl ol).1.op.fam/\(opB b_1.1 b_1.2.1 b_1.2.2).1.gen=(evtD l p nl ol).1.op.gen/\k_1)/\q_U b_1.1 l/\(zi (opB b_1.1 b_1.2.1 b_1.2.2).2)=(zi (evtD l p nl ol).2);((q_U l b.1/\zi p=zi b.2.1)/\i_16=b.2.2)/\rdB b.1 b.2.1 n_1/\((pickB b.1 b.2.1 b.2.2==i_0)=true->k_12)/\((pickB b.1 b.2.1 b.2.2==i_0)=false->((pickB b.1 b.2.1 b.2.2==i_1)=true->k_12)/\((pickB b.1 b.2.1 b.2.2==i_1)=false->((pickB b.1 b.2.1 b.2.2==i_2)=true->k_12)/\((pickB b.1 b.2.1 b.2.2==i_2)=false->((pickB b.1 b.2.1 b.2.2==i_3)=true->∃ (b_1:y_6),((q_U b.1 b_1.1/\(zi (b.2.1+n_1))=zi b_1.2.1)/\i_2=b_1.2.2)/\rdB b_1.1 b_1.2.1 n_1/\(i_0<=pickB b_1.1 b_1.2.1 b_1.2.2/\pickB b_1.1 b_1.2.1 b_1.2.2<zi n_2)/\(pickB b_1.1 b_1.2.1 b_1.2.2).toNat<n_2/\(∃ (b:y_6),((q_U b_1.1 b.1/\(zi (b_1.2.1+n_1))=zi b.2.1)/\wr_ ((zi nl)+i_1)=b.2.2)/\rdB b.1 b.2.1 n_1/\([i_3,i_4].getD (pickB b_1.1 b_1.2.1 b_1.2.2).toNat i_0=(evtD l p nl ol).1.kind/\k_3/\k_5/\k_7/\k_4/\k_6/\k_9/\k_8/\pickB b.1 b.2.1 b.2.2=(evtD l p nl ol).1.at_/\k_2)/\q_U b.1 l/\(zi (b.2.1+n_1))=(zi (evtD l p nl ol).2)))/\((pickB b.1 b.2.1 b.2.2==i_3)=false->((pickB b.1 b.2.1 b.2.2==i_4)=true->∃ (b_1:y_6),((q_U b.1 b_1.1/\(zi (b.2.1+n_1))=zi b_1.2.1)/\i_4=b_1.2.2)/\rdB b_1.1 b_1.2.1 n_1/\(i_5=(evtD l p nl ol).1.kind/\k_3/\k_5/\k_7/\k_4/\k_6/\k_9/\k_8/\k_11/\pickB b_1.1 b_1.2.1 b_1.2.2=(evtD l p nl ol).1.place/\i_0=(evtD l p nl ol).1.keep)/\q_U b_1.1 l/\(zi (b_1.2.1+n_1))=(zi (evtD l p nl ol).2))/\((pickB b.1 b.2.1 b.2.2==i_4)=false->((pickB b.1 b.2.1 b.2.2==i_5)=true->∃ (b_1:y_6),((q_U b.1 b_1.1/\(zi (b.2.1+n_1))=zi b_1.2.1)/\i_3=b_1.2.2)/\rdB b_1.1 b_1.2.1 n_1/\((pickB b_1.1 b_1.2.1 b_1.2.2==i_0)=true->∃ (b:y_6),((q_U b_1.1 b.1/\(zi (b_1.2.1+n_1))=zi b.2.1)/\wr_ ((zi ol)+i_1)=b.2.2)/\rdB b.1 b.2.1 n_1/\(i_6=(evtD l p nl ol).1.kind/\k_3/\k_5/\k_7/\k_4/\k_6/\k_9/\k_8/\pickB b.1 b.2.1 b.2.2=(evtD l p nl ol).1.at_/\k_2)/\q_U b.1 l/\(zi (b.2.1+n_1))=(zi (evtD l p nl ol).2))/\((pickB b_1.1 b_1.2.1 b_1.2.2==i_0)=false->∃ (b:y_6),((q_U b_1.1 b.1/\(zi (b_1.2.1+n_1))=zi b.2.1)/\i_2=b.2.2)/\rdB b.1 b.2.1 n_1/\((pickB b.1 b.2.1 b.2.2==i_0)=true->∃ (b_2:y_6),((q_U b.1 b_2.1/\(zi (b.2.1+n_1))=zi b_2.2.1)/\i_4=b_2.2.2)/\rdB b_2.1 b_2.2.1 n_1/\(∃ (b:y_6),((q_U b_2.1 b.1/\(zi (b_2.2.1+n_1))=zi b.2.1)/\i_3=b.2.2)/\rdB b.1 b.2.1 n_1/\(i_7=(evtD l p nl ol).1.kind/\k_3/\k_5/\k_7/\k_4/\k_6/\k_9/\k_8/\k_11/\pickB b_2.1 b_2.2.1 b_2.2.2=(evtD l p nl ol).1.place/\pickB b.1 b.2.1 b.2.2=(evtD l p nl ol).1.keep)/\q_U b.1 l/\(zi (b.2.1+n_1))=(zi (evtD l p nl ol).2)))/\((pickB b.1 b.2.1 b.2.2==i_0)=false->∃ (b_2:y_6),((q_U b.1 b_2.1/\(zi (b.2.1+n_1))=zi b_2.2.1)/\wr_ ((zi nl)+i_1)=b_2.2.2)/\rdB b_2.1 b_2.2.1 n_1/\(∃ (b:y_6),((q_U b_2.1 b.1/\(zi (b_2.2.1+n_1))=zi b.2.1)/\i_2=b.2.2)/\rdB b.1 b.2.1 n_1/\(i_0<=pickB b.1 b.2.1 b.2.2/\pickB b.1 b.2.1 b.2.2<zi n_2)/\(pickB b.1 b.2.1 b.2.2).toNat<n_2/\(i_2=(evtD l p nl ol).1.kind/\k_3/\k_5/\k_7/\k_4/\k_6/\k_9/\k_8/\[i_0,pickB b_2.1 b_2.2.1 b_2.2.2].getD (pickB b.1 b.2.1 b.2.2).toNat i_0=(evtD l p nl ol).1.at_/\k_2)/\q_U b.1 l/\(zi (b.2.1+n_1))=(zi (evtD l p nl ol).2)))))/\((pickB b.1 b.2.1 b.2.2==i_5)=false->∃ (b_1:y_6),((q_U b.1 b_1.1/\(zi (b.2.1+n_1))=zi b_1.2.1)/\wr_ ((zi nl)+i_1)=b_1.2.2)/\rdB b_1.1 b_1.2.1 n_1/\(∃ (b:y_6),((q_U b_1.1 b.1/\(zi (b_1.2.1+n_1))=zi b.2.1)/\i_2=b.2.2)/\rdB b.1 b.2.1 n_1/\(i_0<=pickB b.1 b.2.1 b.2.2/\pickB b.1 b.2.1 b.2.2<zi n_2)/\(pickB b.1 b.2.1 b.2.2).toNat<n_2/\(i_2=(evtD l p nl ol).1.kind/\k_3/\k_5/\k_7/\k_4/\k_6/\k_9/\k_8/\[i_0,pickB b_1.1 b_1.2.1 b_1.2.2].getD (pickB b.1 b.2.1 b.2.2).toNat i_0=(evtD l p nl ol).1.at_/\k_2)/\q_U b.1 l/\(zi (b.2.1+n_1))=(zi (evtD l p nl ol).2)))))))))=_ by kernel_rfl) ?_
 delta i_0 i_1 i_5 i_2 i_3 i_4 wr_ zi n_8 n_1 n_2 i_1000000 t_U q_U i_7 y_6 i_6 i_16
 have hp:=hpre.1
 obtain ⟨_,a4,a5⟩:=hpre
 have b2:∀ k,k<=19->0<=pickB l (p+k) 2/\pickB l (p+k) 2<2:=fun k hk=>pick_lt (l:=l) (p:=p+k) (n:=2) (rdB_le hp (by omega):rdB l (p+k) 1) (by omega)
 simp only [zza,zzb,true_and,and_true,and_self,ne_eq,cI_app,cWrtO_app,cWrtS_app,cWrtO_1,cItemO_1,opr_ex,zcast,frz_nil,nil_map,Option.getD_none,Option.getD_some]
 have e1:IntKind.i64.wrap ((nl:Int)+1)=(nl:Int)+1:=IntWalk.i64_in _ (by omega)
 have e2:IntKind.i64.wrap ((ol:Int)+1)=(ol:Int)+1:=IntWalk.i64_in _ (by omega)
 simp only [Nat.add_assoc,Nat.reduceAdd,e1,e2]
 repeat' first | (with_reducible apply And.intro) | (with_reducible intro h)
 all_goals first
  | exact rdB_le hp (by omega)
  | exact (b2 _ (by omega)).1
  | exact (b2 _ (by omega)).2
  | (have:=b2 2 (by omega);have:=b2 3 (by omega);have:=b2 1 (by omega);have:=b2 4 (by omega);omega)
  | omega
  | rfl
  | simp [evtD, *,dOpr,Nat.add_assoc]
def spec_l20Event_c:Con Tryz.prog:=conP [.ptr,.len] fun (b:List Int×Nat×Nat×Nat) h=>spec_l20Event_ok (b.1) (b.2.1) (b.2.2.1) (b.2.2.2) h
end Go.Proofs.AI
