/- Data, how they lie in memory, and contracts of functions. Conditions: none. -/
import Derived.KernelRfl
import Derived.ProofKit
import Derived.Test.YthahcnabgjgpfaaGreatDoorK03
namespace Go.Proofs.AI
open Go.RowKit Go.Proofs
set_option linter.unusedVariables false
set_option linter.unusedSimpArgs false
set_option maxRecDepth 100000
def yesAt (f:Front) (k:Int):Bool:=(f.way.getD k.toNat dFTx).yes
def hearF (f:Front) (m:Msg):Front×List Msg×List FOut :=
 if m.kind=6/\0<=atF f.way m.tx/\yesAt f (atF f.way m.tx)=true then (knowF f (atF f.way m.tx).toNat m.frm,[],[])
 else if m.kind=4/\0<=atF f.way m.tx/\yesAt f (atF f.way m.tx)=false then canF f (atF f.way m.tx).toNat m.frm
 else if m.kind=5/\0<=atF f.way m.tx/\yesAt f (atF f.way m.tx)=false then noF f (atF f.way m.tx).toNat
 else if m.kind=4∨m.kind=7 then (f,whatF f m,[])
 else (f,[],[])
def giveF (f:Front) (tx:Int):Front×List Msg×List FOut :=
 if froB f=true then (if atF f.way tx<0∨yesAt f (atF f.way tx)=true then (f,[],[]) else noF f (atF f.way tx).toNat) else (⟨⟨[],0⟩,[]⟩,[],[])
theorem atF_lt {w:List FTx} {tx:Int} (h:0<=atF w tx):(atF w tx).toNat<w.length/\(w.getD (atF w tx).toNat dFTx).tx=tx:=by
 simp only [atF,idxOf] at h ⊢
 split at h
 ·rename_i ha
  rw [if_pos ha]
  have:=List.findIdx_lt_length_of_exists (p:=fun t:FTx=>t.tx==tx) (by obtain ⟨x,h1,h2⟩:=List.any_eq_true.1 ha;exact ⟨x,h1,h2⟩)
  refine ⟨by simpa using this,?_⟩
  rw [Int.toNat_natCast,getD_lt this]
  have:=List.findIdx_getElem (w:=this)
  simpa using this
 ·omega
def ris3 (l:List Int):Prop:=l.Pairwise (·<·)/\∀ x∈l,1<=x/\x<=3
theorem ris3_len {l:List Int} (h:ris3 l):l.length<=3:=by
 obtain ⟨h1,h2⟩:=h
 match l,h1,h2 with
 | [],_,_=>simp
 | [a],_,_=>simp
 | [a,b],_,_=>simp
 | [a,b,c],_,_=>simp
 | a::b::c::d::r,h1,h2 =>
  have ha:=h2 a (by simp)
  have hd:=h2 d (by simp)
  simp only [List.pairwise_cons,List.mem_cons,forall_eq_or_imp] at h1
  obtain ⟨⟨x1,_⟩,⟨x2,_⟩,⟨x3,_⟩,_⟩:=h1
  omega
theorem ris3_of {l:List Int} (h:risB l=true):ris3 l:=by
 simp only [risB,List.all_eq_true,List.mem_range] at h
 have step:∀ i,i+1<l.length->l.getD i 0<l.getD (i+1) 0:=fun i hi=>by
  have:=h (i+1) hi
  simp only [risP,Bool.and_eq_true,Bool.or_eq_true,beq_iff_eq,decide_eq_true_eq] at this
  rcases this.2 with h0 | h0
  ·omega
  ·simpa using h0
 have lt:∀ d i,i+d+1<l.length->l.getD i 0<l.getD (i+d+1) 0:=fun d=>by
  induction d with
  | zero=>intro i hi;exact step i hi
  | succ d ih=>intro i hi;have:=ih i (by omega);have:=step (i+d+1) (by omega);rw [show i+(d+1)+1=i+d+1+1 by omega];omega
 refine ⟨List.pairwise_iff_getElem.2 fun i j hi hj hij=>?_,fun x hx=>?_⟩
 ·have:=lt (j-i-1) i (by omega)
  rw [show i+(j-i-1)+1=j by omega,getD_lt hi,getD_lt hj] at this
  exact this
 ·obtain ⟨k,hk,rfl⟩:=List.getElem_of_mem hx
  have:=h k hk
  simp only [risP,Bool.and_eq_true,getD_lt hk] at this
  simpa [inR] using this.1
theorem ris_len {l:List Int} (h:risB l=true):l.length<=3:=ris3_len (ris3_of h)
def sendN (net:List Msg) (l:List Msg):List Msg:=l.foldl (fun n m=>if n.length<60 then n++[m] else n) net
def outsN (outs:List FOut) (l:List FOut):List FOut:=l.foldl (fun n m=>if n.length<=29 then n++[m] else n) outs
theorem sendN_len (l:List Msg):∀ net:List Msg,(sendN net l).length<=max 60 net.length:=by
 induction l with
 | nil=>intro net;simp [sendN];omega
 | cons m l ih =>
  intro net
  simp only [sendN,List.foldl_cons]
  split
  ·have:=ih (net++[m]);simp only [sendN,List.length_append,List.length_singleton] at this;omega
  ·have:=ih net;simp only [sendN] at this;omega
theorem outsN_len (l:List FOut):∀ net:List FOut,(outsN net l).length<=max 30 net.length:=by
 induction l with
 | nil=>intro net;simp [outsN];omega
 | cons m l ih =>
  intro net
  simp only [outsN,List.foldl_cons]
  split
  ·have:=ih (net++[m]);simp only [outsN,List.length_append,List.length_singleton] at this;omega
  ·have:=ih net;simp only [outsN] at this;omega
theorem froB_smallF {f:Front} (h:froB f=true):smallF f:=by
 obtain ⟨g1,g2,_,g4⟩:=froB_parts h
 refine ⟨(diskB_small g1).1,by omega,fun t ht=>?_⟩
 obtain ⟨k,hk,rfl⟩:=List.getElem_of_mem ht
 have:=g4 k hk
 simp only [wayP,Bool.and_eq_true,getD_lt hk] at this
 exact ⟨by have:=ris_len this.1.1.1.2;omega,by have:=ris_len this.1.1.2;omega⟩
theorem noF_small {f:Front} (h:smallF f) (k:Nat):smallF (noF f k).1:=by
 obtain ⟨h1,h2,h3⟩:=h
 refine ⟨h1,?_,fun t ht=>h3 t (List.mem_of_mem_eraseIdx ht)⟩
 simp only [noF,goneF,List.length_eraseIdx]
 split<;>omega
abbrev cKWldM (x:Wld):List SC:=[.c (sNotes x.front.disk.notes),.c (.n .i64 x.front.disk.safe),.c (mFTxs x.front.way),.c (mDisks x.disks),.c (oMsgs x.net),.c (oOps x.ops),.c (oFOuts x.outs)]
abbrev kWldM (x:Wld):Ky:=⟨.agg,cKWldM x,[]⟩
def newW:Wld:=⟨⟨⟨[],0⟩,[]⟩,[⟨[],0⟩,⟨[],0⟩,⟨[],0⟩],[],[],[]⟩
def smallW (w:Wld):Prop:=smallF w.front/\w.disks.length<=100/\(∀ d∈w.disks,smallD d)/\w.net.length<=1000/\w.ops.length<=1000/\w.outs.length<=1000
theorem spec_l6Hear_ok (f:Front) (m:Msg) (hpre:f.way.length<=1000/\∀ t∈f.way,smallT t):FunOK Tryz.prog 220 2 [] [(0,kFrontM f),(1,kMsg m)] (·=[(2,⟨.tup [(true,3),(false,1),(false,1)],[.c (sNotes (hearF f m).1.disk.notes),.c (.n .i64 (hearF f m).1.disk.safe),.c (mFTxs (hearF f m).1.way),.c (oMsgs (hearF f m).2.1),.c (oFOuts (hearF f m).2.2)],[]⟩)]):=by
 refine fun_to (E:=⟨tab,ctOf [spec_l6At_c,spec_l6No_c,spec_l6Know_c,spec_l6Can_c,spec_l6What_c],100,[],[(0,[2,3,4,32,33,34,56,57,58,59,79,80,81,82,92,95,96,97,98,99]),(1,[2,3,4,7,32,33,34,56,57,58,59,79,80,81,82,92,95,96,97,98,99]),(2,[2,3,4,7,12,32,33,34,56,57,58,59,79,80,81,82,92,95,96,97,98,99]),(3,[2,4,5,6,32,33,34,56,57,58,59,79,80,81,82,92,95,96,97,98,99]),(4,[2,3,4,7,32,33,34,35,56,57,58,59,79,80,81,82,92,95,96,97,98,99]),(5,[2,4,5,6,32,33,34,56,57,58,59,79,80,81,82,92,95,96,97,98,99]),(6,[2,3,4,7,32,33,34,56,57,58,59,60,79,80,81,82,92,95,96,97,98,99]),(7,[2,4,5,6,32,33,34,56,57,58,59,79,80,81,82,92,95,96,97,98,99]),(8,[2,3,4,32,33,34,56,57,58,59,79,80,81,82,83,92,95,96,97,98,99]),(9,[2,4,5,6,32,33,34,56,57,58,59,79,80,81,82,92,95,96,97,98,99]),(10,[2,4,5,6,32,33,34,56,57,58,59,79,80,81,82,92,95,96,97,98,99])],[],[],[(2,⟨Int×Bool,fun x=>[(2,⟨.box,[.c (.sh 72 (typ dNote eNoteS f.disk.notes)),.c (.n .i64 f.disk.safe),.c (.ow 36 (typ dFTx eFTxS f.way))],[]⟩),(3,⟨.box,[.c (.n .i64 m.kind),.c (.n .i64 m.to),.c (.n .i64 m.frm),.c (.n .i64 m.tx),.c (.n .i64 m.op.kind),.c (.n .i64 m.op.who),.c (.n .i64 m.op.inn),.c (.n .i64 m.op.code),.c (.n .i64 m.op.sec),.c (.n .i64 m.op.fam),.c (.n .i64 m.op.gen)],[]⟩),(4,⟨.box,[.c (.ow 72 nilR),.c (.n .i64 ((0:Int))),.c (.ow 36 nilR)],[]⟩),(7,(k1 (.n .i64 (x.1)))),(12,(k1 (.b (x.2))))]⟩),(4,⟨Int×Bool,fun x=>[(2,⟨.box,[.c (.sh 72 (typ dNote eNoteS f.disk.notes)),.c (.n .i64 f.disk.safe),.c (.ow 36 (typ dFTx eFTxS f.way))],[]⟩),(3,⟨.box,[.c (.n .i64 m.kind),.c (.n .i64 m.to),.c (.n .i64 m.frm),.c (.n .i64 m.tx),.c (.n .i64 m.op.kind),.c (.n .i64 m.op.who),.c (.n .i64 m.op.inn),.c (.n .i64 m.op.code),.c (.n .i64 m.op.sec),.c (.n .i64 m.op.fam),.c (.n .i64 m.op.gen)],[]⟩),(4,⟨.box,[.c (.ow 72 nilR),.c (.n .i64 ((0:Int))),.c (.ow 36 nilR)],[]⟩),(7,(k1 (.n .i64 (x.1)))),(35,(k1 (.b (x.2))))]⟩),(6,⟨Int×Bool,fun x=>[(2,⟨.box,[.c (.sh 72 (typ dNote eNoteS f.disk.notes)),.c (.n .i64 f.disk.safe),.c (.ow 36 (typ dFTx eFTxS f.way))],[]⟩),(3,⟨.box,[.c (.n .i64 m.kind),.c (.n .i64 m.to),.c (.n .i64 m.frm),.c (.n .i64 m.tx),.c (.n .i64 m.op.kind),.c (.n .i64 m.op.who),.c (.n .i64 m.op.inn),.c (.n .i64 m.op.code),.c (.n .i64 m.op.sec),.c (.n .i64 m.op.fam),.c (.n .i64 m.op.gen)],[]⟩),(4,⟨.box,[.c (.ow 72 nilR),.c (.n .i64 ((0:Int))),.c (.ow 36 nilR)],[]⟩),(7,(k1 (.n .i64 (x.1)))),(60,(k1 (.b (x.2))))]⟩),(8,⟨Bool,fun x=>[(2,⟨.box,[.c (.sh 72 (typ dNote eNoteS f.disk.notes)),.c (.n .i64 f.disk.safe),.c (.ow 36 (typ dFTx eFTxS f.way))],[]⟩),(3,⟨.box,[.c (.n .i64 m.kind),.c (.n .i64 m.to),.c (.n .i64 m.frm),.c (.n .i64 m.tx),.c (.n .i64 m.op.kind),.c (.n .i64 m.op.who),.c (.n .i64 m.op.inn),.c (.n .i64 m.op.code),.c (.n .i64 m.op.sec),.c (.n .i64 m.op.fam),.c (.n .i64 m.op.gen)],[]⟩),(4,⟨.box,[.c (.ow 72 nilR),.c (.n .i64 ((0:Int))),.c (.ow 36 nilR)],[]⟩),(83,(k1 (.b (x))))]⟩)],[]⟩) tab_ok mixed Tryz.func220 rfl Tryz.ntmps220 (rvs:=[.cell 4 28,.tmp 5,.tmp 6]) Tryz.results220 rfl fun hl=>?_
 refine cast (show (let k_7:Prop:=cnRs (raw [])=t_k (hearF f m).2.2;let k_6:Prop:=f.disk.safe=(hearF f m).1.disk.safe;let k_5:Prop:=q_e f.disk.notes (hearF f m).1.disk.notes;let k_4:Prop:=cnRs nilR=cnRs nilR/\i_0=i_0/\cnRs nilR=cnRs nilR;let k_3:Prop:=cnRs (raw [])=t_g (hearF f m).2.1/\k_7;let k_2:Prop:=q_e f.disk.notes f.disk.notes/\f.disk.safe=f.disk.safe/\q_h f.way f.way;let k_1:Prop:=m.kind=m.kind/\m.to=m.to/\m.frm=m.frm/\m.tx=m.tx/\m.op.kind=m.op.kind/\m.op.who=m.op.who/\m.op.inn=m.op.inn/\m.op.code=m.op.code/\m.op.sec=m.op.sec/\m.op.fam=m.op.fam/\m.op.gen=m.op.gen;∃ (b:Front×Int),((q_e f.disk.notes b.1.disk.notes/\f.disk.safe=b.1.disk.safe/\cnRs (frozenRs (typ dFTx eFTxS f.way))=t_h b.1.way)/\m.tx=b.2)/\(∃ (post:Int×Bool->Prop),let k_8:Prop:=∃ (x:Int×Bool),(k_2/\k_1/\k_4/\atF b.1.way b.2=x.1/\false=x.2)/\post x;(((m.kind==i_6)=true->(decide (atF b.1.way b.2≥i_0)=true->(i_0<=atF b.1.way b.2/\atF b.1.way b.2<zi f.way.length)/\(atF b.1.way b.2).toNat<f.way.length/\(∃ (x:Int×Bool),(k_2/\k_1/\k_4/\atF b.1.way b.2=x.1/\(f.way.getD (atF b.1.way b.2).toNat dFTx).yes=x.2)/\post x))/\(decide (atF b.1.way b.2≥i_0)=false->k_8))/\((m.kind==i_6)=false->k_8))/\(∀ (x:Int×Bool),post x->(x.2=true->∃ (b:Front×Nat×Int),((q_e f.disk.notes b.1.disk.notes/\f.disk.safe=b.1.disk.safe/\q_h f.way b.1.way)/\x.1=zi b.2.1/\m.frm=b.2.2)/\(b.2.1<b.1.way.length/\b.1.way.length<=n_1000/\(b.1.way.getD b.2.1 dFTx).know.length<=n_1000)/\q_e (knowF b.1 b.2.1 b.2.2).disk.notes (hearF f m).1.disk.notes/\(knowF b.1 b.2.1 b.2.2).disk.safe=(hearF f m).1.disk.safe/\q_h (knowF b.1 b.2.1 b.2.2).way (hearF f m).1.way/\k_3)/\(x.2=false->∃ (post:Int×Bool->Prop),let k_9:Prop:=∃ (x_1:Int×Bool),(k_2/\k_1/\k_4/\x.1=x_1.1/\false=x_1.2)/\post x_1;(((m.kind==i_4)=true->(decide (x.1≥i_0)=true->(i_0<=x.1/\x.1<zi f.way.length)/\x.1.toNat<f.way.length/\(∃ (x_1:Int×Bool),(k_2/\k_1/\k_4/\x.1=x_1.1/\(!(f.way.getD x.1.toNat dFTx).yes)=x_1.2)/\post x_1))/\(decide (x.1≥i_0)=false->k_9))/\((m.kind==i_4)=false->k_9))/\(∀ (x:Int×Bool),post x->(x.2=true->∃ (b:Front×Nat×Int),((q_e f.disk.notes b.1.disk.notes/\f.disk.safe=b.1.disk.safe/\q_h f.way b.1.way)/\x.1=zi b.2.1/\m.frm=b.2.2)/\(b.2.1<b.1.way.length/\b.1.way.length<=n_1000/\(b.1.way.getD b.2.1 dFTx).can.length<=n_1000)/\q_e (canF b.1 b.2.1 b.2.2).1.disk.notes (hearF f m).1.disk.notes/\(canF b.1 b.2.1 b.2.2).1.disk.safe=(hearF f m).1.disk.safe/\q_h (canF b.1 b.2.1 b.2.2).1.way (hearF f m).1.way/\q_g (canF b.1 b.2.1 b.2.2).2.1 (hearF f m).2.1/\q_k (canF b.1 b.2.1 b.2.2).2.2 (hearF f m).2.2)/\(x.2=false->∃ (post:Int×Bool->Prop),let k_10:Prop:=∃ (x_1:Int×Bool),(k_2/\k_1/\k_4/\x.1=x_1.1/\false=x_1.2)/\post x_1;(((m.kind==i_5)=true->(decide (x.1≥i_0)=true->(i_0<=x.1/\x.1<zi f.way.length)/\x.1.toNat<f.way.length/\(∃ (x_1:Int×Bool),(k_2/\k_1/\k_4/\x.1=x_1.1/\(!(f.way.getD x.1.toNat dFTx).yes)=x_1.2)/\post x_1))/\(decide (x.1≥i_0)=false->k_10))/\((m.kind==i_5)=false->k_10))/\(∀ (x:Int×Bool),post x->(x.2=true->∃ (b:Front×Nat),((q_e f.disk.notes b.1.disk.notes/\f.disk.safe=b.1.disk.safe/\q_h f.way b.1.way)/\x.1=zi b.2)/\(b.2<b.1.way.length/\b.1.way.length<=n_1000)/\q_e (noF b.1 b.2).1.disk.notes (hearF f m).1.disk.notes/\(noF b.1 b.2).1.disk.safe=(hearF f m).1.disk.safe/\q_h (noF b.1 b.2).1.way (hearF f m).1.way/\q_g (noF b.1 b.2).2.1 (hearF f m).2.1/\q_k (noF b.1 b.2).2.2 (hearF f m).2.2)/\(x.2=false->∃ (post:Bool->Prop),(((m.kind==i_4)=false->∃ (x:Bool),(k_2/\k_1/\k_4/\(m.kind==i_7)=x)/\post x)/\((m.kind==i_4)=true->∃ (x:Bool),(k_2/\k_1/\k_4/\true=x)/\post x))/\(∀ (x:Bool),post x->(x=true->∃ (b:Front×Msg),((q_e f.disk.notes b.1.disk.notes/\f.disk.safe=b.1.disk.safe/\cnRs (frozenRs (typ dFTx eFTxS f.way))=t_h b.1.way)/\m.kind=b.2.kind/\m.to=b.2.to/\m.frm=b.2.frm/\m.tx=b.2.tx/\m.op.kind=b.2.op.kind/\m.op.who=b.2.op.who/\m.op.inn=b.2.op.inn/\m.op.code=b.2.op.code/\m.op.sec=b.2.op.sec/\m.op.fam=b.2.op.fam/\m.op.gen=b.2.op.gen)/\(((∀ (k:Nat),True/\True/\True/\True/\True/\True/\True/\True/\True/\True/\True/\True)/\True)/\True)/\k_5/\k_6/\q_h f.way (hearF f m).1.way/\q_g (whatF b.1 b.2) (hearF f m).2.1/\k_7)/\(x=false->k_5/\k_6/\q_h f.way (hearF f m).1.way/\k_3))))))))))=_ by kernel_rfl) ?_
 delta i_0 i_5 i_4 zi n_1000 i_7 i_6 t_e q_e t_g q_g t_h q_h t_k q_k
 obtain ⟨p1,p2⟩:=hpre
 simp only [zza,zzb,true_and,and_true,and_self,ne_eq,cI_app,cWrtO_app,cWrtS_app,cWrtO_1,cItemO_1,opr_ex,zcast,frz_nil,nil_map,Option.getD_none,Option.getD_some]
 have hat:=fun h=>atF_lt (w:=f.way) (tx:=m.tx) h
 have hT:∀ k,k<f.way.length->smallT (f.way.getD k dFTx):=fun k hk=>p2 _ (by rw [getD_lt hk];exact List.getElem_mem hk)
 generalize hA:atF f.way m.tx=A at *
 have C1:∀ {p q:Prop} {b:Bool},p->q->(b=true↔p/\q/\b=true):=fun hp hq=>⟨fun h=>⟨hp,hq,h⟩,fun h=>h.2.2⟩
 refine ⟨fun z=>z.1=A/\(z.2=true↔(m.kind=6/\0<=A/\yesAt f A=true)),fun h1=>⟨fun h2=>⟨h2,by have:=(hat h2).1;omega,(hat h2).1,rfl,C1 h1 h2⟩,fun h2=>⟨rfl,by simp only [Bool.false_eq_true,false_iff];exact fun h=>h2 h.2.1⟩⟩,fun h1=>⟨rfl,by simp only [Bool.false_eq_true,false_iff];exact fun h=>h1 h.1⟩,fun z b hz=>?_⟩
 simp only at hz
 obtain ⟨rfl,hb⟩:=hz
 refine ⟨fun h=>?_,fun h=>?_⟩
 ·have hc:=hb.1 h
  have hl:=(hat hc.2.1).1
  simp only [hearF,hA,if_pos hc]
  exact ⟨z.toNat,by omega,hl,p1,(hT _ hl).2,by simp only [and_self]⟩
 have hc6:¬ (m.kind=6/\0<=z/\yesAt f z=true):=fun hc=>by rw [hb.2 hc] at h;cases h
 refine ⟨fun y=>y.1=z/\(y.2=true↔(m.kind=4/\0<=z/\yesAt f z=false)),fun h1=>⟨fun h2=>⟨h2,by have:=(hat h2).1;omega,(hat h2).1,rfl,?_⟩,fun h2=>⟨rfl,by simp only [Bool.false_eq_true,false_iff];exact fun h=>h2 h.2.1⟩⟩,fun h1=>⟨rfl,by simp only [Bool.false_eq_true,false_iff];exact fun h=>h1 h.1⟩,fun y c hy=>?_⟩
 ·show (!yesAt f z)=true↔_
  rw [Bool.not_eq_true'];exact ⟨fun h=>⟨h1,h2,h⟩,fun h=>h.2.2⟩
 simp only at hy
 obtain ⟨rfl,hc⟩:=hy
 refine ⟨fun h=>?_,fun h=>?_⟩
 ·have hcc:=hc.1 h
  have hl:=(hat hcc.2.1).1
  simp only [hearF,hA,if_neg hc6,if_pos hcc]
  exact ⟨y.toNat,by omega,hl,p1,(hT _ hl).1,by simp only [and_self]⟩
 have hc4:¬ (m.kind=4/\0<=y/\yesAt f y=false):=fun hcc=>by rw [hc.2 hcc] at h;cases h
 refine ⟨fun x=>x.1=y/\(x.2=true↔(m.kind=5/\0<=y/\yesAt f y=false)),fun h1=>⟨fun h2=>⟨h2,by have:=(hat h2).1;omega,(hat h2).1,rfl,?_⟩,fun h2=>⟨rfl,by simp only [Bool.false_eq_true,false_iff];exact fun h=>h2 h.2.1⟩⟩,fun h1=>⟨rfl,by simp only [Bool.false_eq_true,false_iff];exact fun h=>h1 h.1⟩,fun x d hx=>?_⟩
 ·show (!yesAt f y)=true↔_
  rw [Bool.not_eq_true'];exact ⟨fun h=>⟨h1,h2,h⟩,fun h=>h.2.2⟩
 simp only at hx
 obtain ⟨rfl,hd⟩:=hx
 refine ⟨fun h=>?_,fun h=>?_⟩
 ·have hcc:=hd.1 h
  have hl:=(hat hcc.2.1).1
  simp only [hearF,hA,if_neg hc6,if_neg hc4,if_pos hcc]
  exact ⟨x.toNat,by omega,hl,p1,rfl,rfl,rfl,rfl,rfl⟩
 have hc5:¬ (m.kind=5/\0<=x/\yesAt f x=false):=fun hcc=>by rw [hd.2 hcc] at h;cases h
 simp only [hearF,hA,if_neg hc6,if_neg hc4,if_neg hc5]
 refine ⟨fun q=>(q=true↔(m.kind=4∨m.kind=7)),fun h1=>by simp [h1],fun h1=>by simp [h1],fun q hq=>⟨fun h2=>?_,fun h2=>?_⟩⟩
 ·simp only [if_pos (hq.1 h2),and_self]
 ·have:¬ (m.kind=4∨m.kind=7):=fun h3=>by rw [hq.2 h3] at h2;cases h2
  simp only [if_neg this,and_self]
def spec_l6Hear_c:Con Tryz.prog:=⟨220,2,[.give,.lend],[],Front×Msg,some fun b=>b.1.way.length<=1000/\∀ t∈b.1.way,smallT t,fun b=>[(0,kFrontM b.1),(1,kMsg b.2)],fun b=>[(2,⟨.tup [(true,3),(false,1),(false,1)],[.c (sNotes (hearF b.1 b.2).1.disk.notes),.c (.n .i64 (hearF b.1 b.2).1.disk.safe),.c (mFTxs (hearF b.1 b.2).1.way),.c (oMsgs (hearF b.1 b.2).2.1),.c (oFOuts (hearF b.1 b.2).2.2)],[]⟩)],[],fun b h=>spec_l6Hear_ok (b.1) (b.2) h⟩
theorem spec_FroGive_ok (f:Front) (tx:Int):FunOK Tryz.prog 16 2 [] [(0,kFrontS f),(1,kI tx)] (·=[(2,⟨.tup [(true,3),(false,1),(false,1)],[.c (oNotes (giveF f tx).1.disk.notes),.c (.n .i64 (giveF f tx).1.disk.safe),.c (oFTxs (giveF f tx).1.way),.c (oMsgs (giveF f tx).2.1),.c (oFOuts (giveF f tx).2.2)],[]⟩)]):=by
 refine fun_to (E:=⟨tab,ctOf [spec_FroOk_c,spec_l6Copy_c,spec_l6At_c,spec_l6No_c],47,[],[(0,[1,2,4,7,10,11,15,16,17,33,34,35,36,39,41,42,44,45,46]),(1,[1,2,4,7,10,11,14,15,16,17,33,34,35,36,39,41,42,44,45,46]),(2,[4,5,6,7,10,11,15,16,17,33,34,35,36,39,41,42,44,45,46]),(3,[1,4,7,10,11,15,16,17,33,34,35,36,39,41,42,44,45,46]),(4,[4,7,8,10,11,15,16,17,33,34,35,36,39,41,42,44,45,46]),(5,[4,7,8,10,11,15,16,17,32,33,34,35,36,39,41,42,44,45,46]),(6,[4,5,6,7,10,11,15,16,17,33,34,35,36,39,41,42,44,45,46]),(7,[4,7,9,10,11,15,16,17,33,34,35,36,39,41,42,44]),(8,[4,5,6,7,10,11,15,16,17,33,34,35,36,39,41,42,44,45,46])],[],[(7,[(0,[7]),(2000000,[4])]),(8,[(1000002,[]),(1000003,[])])],[(5,⟨Int×Bool,fun x=>[(4,⟨.box,[.c (.ow 72 nilR),.c (.n .i64 ((0:Int))),.c (.ow 36 nilR)],[]⟩),(7,⟨.box,[.c (.ow 72 (typ dNote eNoteO f.disk.notes)),.c (.n .i64 f.disk.safe),.c (.ow 36 (typ dFTx eFTxO f.way))],[]⟩),(8,(k1 (.n .i64 (x.1)))),(32,(k1 (.b (x.2))))]⟩)],[]⟩) tab_ok mixed Tryz.func16 rfl Tryz.ntmps16 (rvs:=[.cell 4 28,.tmp 5,.tmp 6]) Tryz.results16 rfl fun hl=>?_
 refine cast (show (let k_3:Prop:=∀ (k:Nat),True/\True;let k_2:Prop:=cnRs nilR=cnRs nilR/\i_0=i_0/\cnRs nilR=cnRs nilR;let k_1:Prop:=cnRs (raw [])=t_g (giveF f tx).2.1/\cnRs (raw [])=t_k (giveF f tx).2.2;∃ (b:Front),(q_e f.disk.notes b.disk.notes/\f.disk.safe=b.disk.safe/\q_h f.way b.way)/\((!froB b)=true->cnRs nilR=t_f (giveF f tx).1.disk.notes/\i_0=(giveF f tx).1.disk.safe/\cnRs nilR=t_j (giveF f tx).1.way/\k_1)/\((!froB b)=false->∃ (b:Front),let k_4:Prop:=q_f b.disk.notes f.disk.notes/\b.disk.safe=f.disk.safe/\q_j b.way f.way;(q_e f.disk.notes b.disk.notes/\f.disk.safe=b.disk.safe/\q_h f.way b.way)/\smallF b/\(∃ (b_1:Front×Int),((cnRs (frozenRs (typ dNote eNoteO b.disk.notes))=t_e b_1.1.disk.notes/\b.disk.safe=b_1.1.disk.safe/\cnRs (frozenRs (typ dFTx eFTxO b.way))=t_h b_1.1.way)/\tx=b_1.2)/\(∃ (post:Int×Bool->Prop),((decide (atF b_1.1.way b_1.2<i_0)=false->(i_0<=atF b_1.1.way b_1.2/\atF b_1.1.way b_1.2<zi b.way.length)/\(atF b_1.1.way b_1.2).toNat<b.way.length/\(∃ (x:Int×Bool),(k_2/\k_4/\atF b_1.1.way b_1.2=x.1/\(b.way.getD (atF b_1.1.way b_1.2).toNat dFTx).yes=x.2)/\post x))/\(decide (atF b_1.1.way b_1.2<i_0)=true->∃ (x:Int×Bool),(k_2/\k_4/\atF b_1.1.way b_1.2=x.1/\true=x.2)/\post x))/\(∀ (x:Int×Bool),post x->(x.2=true->q_f f.disk.notes (giveF f tx).1.disk.notes/\f.disk.safe=(giveF f tx).1.disk.safe/\q_j f.way (giveF f tx).1.way/\k_1)/\(x.2=false->∃ (b:Front×Nat),((cnRs (frozenRs (typ dNote eNoteO f.disk.notes))=t_e b.1.disk.notes/\f.disk.safe=b.1.disk.safe/\cnRs (frozenRs (typ dFTx eFTxO f.way))=t_h b.1.way)/\x.1=zi b.2)/\(b.2<b.1.way.length/\b.1.way.length<=n_1000)/\(∃ (b_2:Front),(q_e (noF b.1 b.2).1.disk.notes b_2.disk.notes/\(noF b.1 b.2).1.disk.safe=b_2.disk.safe/\cnRs (frozenRs (typ dFTx eFTxS (noF b.1 b.2).1.way))=t_h b_2.way)/\smallF b_2/\(((∀ (k:Nat),True/\True/\k_3/\(∀ (k:Nat),True/\True/\k_3/\True)/\True)/\True/\(∀ (k:Nat),True/\True/\True/\True/\True/\True/\True/\True/\True/\k_3/\k_3/\True)/\True)/\True)/\q_f b_2.disk.notes (giveF f tx).1.disk.notes/\b_2.disk.safe=(giveF f tx).1.disk.safe/\q_j b_2.way (giveF f tx).1.way/\q_g (noF b.1 b.2).2.1 (giveF f tx).2.1/\q_k (noF b.1 b.2).2.2 (giveF f tx).2.2)))))))=_ by kernel_rfl) ?_
 delta i_0 zi n_1000 t_e q_e t_f q_f t_g q_g t_h q_h t_j q_j t_k q_k
 simp only [zza,zzb,true_and,and_true,and_self,ne_eq,cI_app,cWrtO_app,cWrtS_app,cWrtO_1,cItemO_1,opr_ex,zcast,frz_nil,nil_map,Option.getD_none,Option.getD_some]
 refine ⟨fun h=>?_,fun h=>?_⟩
 ·simp at h;simp [giveF,h]
 simp at h
 have hs:=froB_smallF h
 have hat:=fun h=>atF_lt (w:=f.way) (tx:=tx) h
 simp only [giveF,h,if_true]
 generalize atF f.way tx=A at *
 refine ⟨hs,fun z=>z.1=A/\(z.2=true↔(A<0∨yesAt f A=true)),fun h2=>⟨by omega,by have:=(hat (by omega)).1;omega,(hat (by omega)).1,rfl,?_⟩,fun h2=>⟨rfl,by simp [h2]⟩,fun z b hz=>?_⟩
 ·show yesAt f A=true↔_
  exact ⟨fun h=>.inr h,fun h=>h.resolve_left h2⟩
 simp only at hz
 obtain ⟨rfl,hb⟩:=hz
 refine ⟨fun h=>?_,fun h=>?_⟩
 ·simp only [if_pos (hb.1 h),and_self]
 ·have hn:¬ (z<0∨yesAt f z=true):=fun h3=>by rw [hb.2 h3] at h;cases h
  have hl:=(hat (by omega)).1
  simp only [if_neg hn]
  exact ⟨z.toNat,by omega,hl,hs.2.1,noF_small hs _,rfl,rfl,rfl,rfl,rfl⟩
def spec_FroGive_c:Con Tryz.prog:=con0 [.lend,.lend] fun b:Front×Int=>spec_FroGive_ok (b.1) (b.2)
theorem spec_l7Send_ok (w:Wld) (l:List Msg) (hpre:w.net.length<=1000):FunOK Tryz.prog 181 2 [] [(0,kWldM w),(1,k1 (sMsgs l))] (·=[(2,kWldM ⟨w.front,w.disks,sendN w.net l,w.ops,w.outs⟩)]):=by
 refine fun_to (E:=⟨tab,ctOf [],26,[],[(0,[1,2,4,25]),(1,[1,2,4,5,25]),(2,[1,2,4,5,9,25]),(3,[1,2,4,5,25]),(4,[1,2,4,5,15,25]),(5,[1,2,4,5,25]),(6,[2,4,25])],[(0,⟨List Msg×Nat,fun x=>[(1,(k1 (.sh 63 (typ dMsg eMsg l)))),(2,⟨.box,[.c (.sh 72 (typ dNote eNoteS w.front.disk.notes)),.c (.n .i64 w.front.disk.safe),.c (.ow 36 (typ dFTx eFTxS w.front.way)),.c (.ow 25 (typ dDisk eDiskS w.disks)),.c (oMsgs (x.1)),.c (.ow 33 (typ dOpr eOpr w.ops)),.c (.ow 79 (typ dFOut eFOut w.outs))],[]⟩),(4,⟨.box,[.c (.ow 72 nilR),.c (.n .i64 ((0:Int))),.c (.ow 36 nilR),.c (.ow 25 nilR),.c (.ow 63 nilR),.c (.ow 33 nilR),.c (.ow 79 nilR)],[]⟩),(5,(k1 (.n .i64 (x.2:Int))))]⟩)],[],[],[]⟩) tab_ok mixed Tryz.func181 rfl Tryz.ntmps181 (rvs:=[.cell 4 123]) Tryz.results181 rfl fun hl=>?_
 refine cast (show (let k_5:Prop:=q_h w.front.way w.front.way;let k_4:Prop:=q_m w.ops w.ops/\q_k w.outs w.outs;let k_3:Prop:=w.front.disk.safe=w.front.disk.safe;let k_2:Prop:=q_e w.front.disk.notes w.front.disk.notes;let k_1:Prop:=cnRs nilR=cnRs nilR/\i_0=i_0/\cnRs nilR=cnRs nilR/\cnRs nilR=cnRs nilR/\cnRs nilR=cnRs nilR/\cnRs nilR=cnRs nilR/\cnRs nilR=cnRs nilR;∃ (pre:List Msg×Nat->Prop),∃ (μ:List Msg×Nat->Nat),∃ (x0:List Msg×Nat),(q_g l l/\(k_2/\k_3/\k_5/\q_l w.disks w.disks/\q_g w.net x0.1/\k_4)/\k_1/\i_0=zi x0.2)/\pre x0/\(∀ (x:List Msg×Nat),pre x->(decide (zi x.2<zi l.length)=true->(decide (zi x.1.length<i_60)=true->(i_0<=zi x.2/\zi x.2<zi l.length)/\(x.1.length+n_1)*n_88<=n_140737488355328/\(∃ (y:List Msg×Nat),(q_g l l/\(k_2/\k_3/\k_5/\q_l w.disks w.disks/\cnRs (appR (typ dMsg eMsg x.1) (raw [[cn_ (g_Msg l x.2).kind,cn_ (g_Msg l x.2).to,cn_ (g_Msg l x.2).frm,cn_ (g_Msg l x.2).tx,cn_ (g_Msg l x.2).op.kind,cn_ (g_Msg l x.2).op.who,cn_ (g_Msg l x.2).op.inn,cn_ (g_Msg l x.2).op.code,cn_ (g_Msg l x.2).op.sec,cn_ (g_Msg l x.2).op.fam,cn_ (g_Msg l x.2).op.gen]]))=t_g y.1/\k_4)/\k_1/\wr_ ((zi x.2)+i_1)=zi y.2)/\pre y/\μ y<μ x))/\(decide (zi x.1.length<i_60)=false->∃ (y:List Msg×Nat),(q_g l l/\(k_2/\k_3/\k_5/\q_l w.disks w.disks/\q_g x.1 y.1/\k_4)/\k_1/\wr_ ((zi x.2)+i_1)=zi y.2)/\pre y/\μ y<μ x))/\(decide (zi x.2<zi l.length)=false->k_2/\k_3/\k_5/\q_l w.disks w.disks/\q_g x.1 (sendN w.net l)/\k_4)))=_ by kernel_rfl) ?_
 delta i_0 i_1 wr_ zi n_140737488355328 n_1 cn_ t_e q_e t_g q_g n_88 t_h q_h t_k q_k g_Msg t_l t_m q_l q_m i_60
 have hx:l.length<=9223372036854775807:=hl.2.1 (.c (sMsgs l)) (by simp)
 simp only [zza,zzb,true_and,and_true,and_self,ne_eq,cI_app,cWrtO_app,cWrtS_app,cWrtO_1,cItemO_1,opr_ex,zcast,frz_nil,nil_map,Option.getD_none,Option.getD_some]
 refine ⟨fun x=>x.2<=l.length/\x.1=sendN w.net (l.take x.2),⟨Nat.zero_le _,rfl⟩,fun x=>l.length-x.2,fun a i hp=>?_⟩
 obtain ⟨h1,h2⟩:=hp
 simp only at h1 h2
 have hl2:=sendN_len (l.take i) w.net
 rw [<- h2] at hl2
 have go:i<l.length->∀ v,v=(if a.length<60 then a++[l.getD i dMsg] else a)->∃ y:Nat,IntKind.i64.wrap ((i:Int)+1)=(y:Int)/\(y<=l.length/\v=sendN w.net (l.take y))/\l.length-y<l.length-i:=fun hlt v hv =>
  ⟨i+1,wrapN (by omega),⟨by omega,by rw [hv,h2];simp only [sendN];rw [fold_succ (d:=dMsg) hlt]<;>rfl⟩,by omega⟩
 refine ⟨fun hlt=>⟨fun e=>⟨by omega,hlt,by omega,a++[l.getD i dMsg],by simp,go (by omega) _ (by rw [if_pos (by omega)]<;>rfl)⟩,fun e=>go (by omega) _ (by rw [if_neg (by omega)])⟩,fun hge=>?_⟩
 have:i=l.length:=by omega
 rw [h2,this,List.take_length]
def spec_l7Send_c:Con Tryz.prog:=conP [.give,.lend] fun (b:Wld×List Msg) h=>spec_l7Send_ok (b.1) (b.2) h
theorem spec_l7Outs_ok (w:Wld) (l:List FOut) (hpre:w.outs.length<=1000):FunOK Tryz.prog 180 2 [] [(0,kWldM w),(1,k1 (sFOuts l))] (·=[(2,kWldM ⟨w.front,w.disks,w.net,w.ops,outsN w.outs l⟩)]):=by
 refine fun_to (E:=⟨tab,ctOf [],26,[],[(0,[1,2,4,25]),(1,[1,2,4,5,25]),(2,[1,2,4,5,9,25]),(3,[1,2,4,5,25]),(4,[1,2,4,5,15,25]),(5,[1,2,4,5,25]),(6,[2,4,25])],[(0,⟨List FOut×Nat,fun x=>[(1,(k1 (.sh 79 (typ dFOut eFOut l)))),(2,⟨.box,[.c (.sh 72 (typ dNote eNoteS w.front.disk.notes)),.c (.n .i64 w.front.disk.safe),.c (.ow 36 (typ dFTx eFTxS w.front.way)),.c (.ow 25 (typ dDisk eDiskS w.disks)),.c (.ow 63 (typ dMsg eMsg w.net)),.c (.ow 33 (typ dOpr eOpr w.ops)),.c (oFOuts (x.1))],[]⟩),(4,⟨.box,[.c (.ow 72 nilR),.c (.n .i64 ((0:Int))),.c (.ow 36 nilR),.c (.ow 25 nilR),.c (.ow 63 nilR),.c (.ow 33 nilR),.c (.ow 79 nilR)],[]⟩),(5,(k1 (.n .i64 (x.2:Int))))]⟩)],[],[],[]⟩) tab_ok mixed Tryz.func180 rfl Tryz.ntmps180 (rvs:=[.cell 4 123]) Tryz.results180 rfl fun hl=>?_
 refine cast (show (let k_4:Prop:=q_h w.front.way w.front.way;let k_3:Prop:=w.front.disk.safe=w.front.disk.safe;let k_2:Prop:=q_e w.front.disk.notes w.front.disk.notes;let k_1:Prop:=cnRs nilR=cnRs nilR/\i_0=i_0/\cnRs nilR=cnRs nilR/\cnRs nilR=cnRs nilR/\cnRs nilR=cnRs nilR/\cnRs nilR=cnRs nilR/\cnRs nilR=cnRs nilR;∃ (pre:List FOut×Nat->Prop),∃ (μ:List FOut×Nat->Nat),∃ (x0:List FOut×Nat),(q_k l l/\(k_2/\k_3/\k_4/\q_l w.disks w.disks/\q_g w.net w.net/\q_m w.ops w.ops/\q_k w.outs x0.1)/\k_1/\i_0=zi x0.2)/\pre x0/\(∀ (x:List FOut×Nat),pre x->(decide (zi x.2<zi l.length)=true->(decide (zi x.1.length<=i_29)=true->(i_0<=zi x.2/\zi x.2<zi l.length)/\(x.1.length+n_1)*n_16<=n_140737488355328/\(∃ (y:List FOut×Nat),(q_k l l/\(k_2/\k_3/\k_4/\q_l w.disks w.disks/\q_g w.net w.net/\q_m w.ops w.ops/\cnRs (appR (typ dFOut eFOut x.1) (raw [[cn_ (g_FOut l x.2).tx,CV.b (g_FOut l x.2).ok]]))=t_k y.1)/\k_1/\wr_ ((zi x.2)+i_1)=zi y.2)/\pre y/\μ y<μ x))/\(decide (zi x.1.length<=i_29)=false->∃ (y:List FOut×Nat),(q_k l l/\(k_2/\k_3/\k_4/\q_l w.disks w.disks/\q_g w.net w.net/\q_m w.ops w.ops/\q_k x.1 y.1)/\k_1/\wr_ ((zi x.2)+i_1)=zi y.2)/\pre y/\μ y<μ x))/\(decide (zi x.2<zi l.length)=false->k_2/\k_3/\k_4/\q_l w.disks w.disks/\q_g w.net w.net/\q_m w.ops w.ops/\q_k x.1 (outsN w.outs l))))=_ by kernel_rfl) ?_
 delta i_0 i_1 wr_ zi n_140737488355328 n_1 cn_ n_16 i_29 t_e q_e t_g q_g t_h q_h t_k q_k t_l t_m q_l q_m g_FOut
 have hx:l.length<=9223372036854775807:=hl.2.1 (.c (sFOuts l)) (by simp)
 simp only [zza,zzb,true_and,and_true,and_self,ne_eq,cI_app,cWrtO_app,cWrtS_app,cWrtO_1,cItemO_1,opr_ex,zcast,frz_nil,nil_map,Option.getD_none,Option.getD_some]
 refine ⟨fun x=>x.2<=l.length/\x.1=outsN w.outs (l.take x.2),⟨Nat.zero_le _,rfl⟩,fun x=>l.length-x.2,fun a i hp=>?_⟩
 obtain ⟨h1,h2⟩:=hp
 simp only at h1 h2
 have hl2:=outsN_len (l.take i) w.outs
 rw [<- h2] at hl2
 have go:i<l.length->∀ v,v=(if a.length<=29 then a++[l.getD i dFOut] else a)->∃ y:Nat,IntKind.i64.wrap ((i:Int)+1)=(y:Int)/\(y<=l.length/\v=outsN w.outs (l.take y))/\l.length-y<l.length-i:=fun hlt v hv =>
  ⟨i+1,wrapN (by omega),⟨by omega,by rw [hv,h2];simp only [outsN];rw [fold_succ (d:=dFOut) hlt]<;>rfl⟩,by omega⟩
 refine ⟨fun hlt=>⟨fun e=>⟨by omega,hlt,by omega,a++[l.getD i dFOut],by simp,go (by omega) _ (by rw [if_pos (by omega)]<;>rfl)⟩,fun e=>go (by omega) _ (by rw [if_neg (by omega)])⟩,fun hge=>?_⟩
 have:i=l.length:=by omega
 rw [h2,this,List.take_length]
def spec_l7Outs_c:Con Tryz.prog:=conP [.give,.lend] fun (b:Wld×List FOut) h=>spec_l7Outs_ok (b.1) (b.2) h
theorem spec_WldNew_ok (u:Unit):FunOK Tryz.prog 135 0 [] [] (·=[(0,kWldM newW)]):=by
 refine fun_to (E:=⟨tab,ctOf [],6,[],[(0,[0,1,2,3,4,5]),(1,[0,1,2,3,4,5])],[],[(1,[(3,[1,2,3]),(5,[5]),(2000005,[124])])],[],[]⟩) tab_ok mixed Tryz.func135 rfl Tryz.ntmps135 (rvs:=[.cell 0 123]) Tryz.results135 rfl fun hl=>?_
 refine cast (show (cnRs (frozenRs nilR)=t_e newW.front.disk.notes/\i_0=newW.front.disk.safe/\cnRs (frozenRs nilR)=t_h newW.front.way/\cnRs (frozenRs (raw [[CV.sh n_72 (frozenRs nilR),cn_ i_0],[CV.sh n_72 (frozenRs nilR),cn_ i_0],[CV.sh n_72 (frozenRs nilR),cn_ i_0]]))=t_l newW.disks/\cnRs (frozenRs nilR)=t_g newW.net/\cnRs (frozenRs nilR)=t_m newW.ops/\cnRs (frozenRs nilR)=t_k newW.outs)=_ by kernel_rfl) ?_
 delta i_0 cn_ t_e t_g t_h t_k t_l t_m n_72
 simp only [zza,zzb,true_and,and_true,and_self,ne_eq,cI_app,cWrtO_app,cWrtS_app,cWrtO_1,cItemO_1,opr_ex,zcast,frz_nil,nil_map,Option.getD_none,Option.getD_some]
 simp [newW]
def spec_WldNew_c:Con Tryz.prog:=con0 [] fun b:Unit=>spec_WldNew_ok b
theorem spec_l7Copy_ok (w:Wld) (hpre:smallW w):FunOK Tryz.prog 138 1 [] [(0,kWldS w)] (·=[(1,kWldO w)]):=by
 refine fun_to (E:=⟨tab,ctOf [spec_l6Copy_c,spec_l2Copy_c],40,[],[(0,[1,2,3,39]),(1,[1,2,3,39]),(2,[1,2,3,4,39]),(3,[1,2,3,4,25,39]),(4,[1,2,3,4,39]),(5,[1,2,3,4,39]),(6,[2,3,39])],[(0,⟨List Disk×Nat,fun x=>[(1,⟨.box,[.c (.sh 72 (typ dNote eNoteS w.front.disk.notes)),.c (.n .i64 w.front.disk.safe),.c (.sh 36 (typ dFTx eFTxS w.front.way)),.c (.sh 25 (typ dDisk eDiskS w.disks)),.c (.sh 63 (typ dMsg eMsg w.net)),.c (.sh 33 (typ dOpr eOpr w.ops)),.c (.sh 79 (typ dFOut eFOut w.outs))],[]⟩),(2,⟨.box,[.c (.ow 72 nilR),.c (.n .i64 ((0:Int))),.c (.ow 36 nilR),.c (.ow 25 nilR),.c (.ow 63 nilR),.c (.ow 33 nilR),.c (.ow 79 nilR)],[]⟩),(3,⟨.box,[.c (.ow 72 (typ dNote eNoteO w.front.disk.notes)),.c (.n .i64 w.front.disk.safe),.c (.ow 36 (typ dFTx eFTxO w.front.way)),.c (oDisks (x.1)),.c (.ow 63 (appR (raw []) (typ dMsg eMsg w.net))),.c (.ow 33 (appR (raw []) (typ dOpr eOpr w.ops))),.c (.ow 79 (appR (raw []) (typ dFOut eFOut w.outs)))],[]⟩),(4,(k1 (.n .i64 (x.2:Int))))]⟩)],[],[],[]⟩) tab_ok mixed Tryz.func138 rfl Tryz.ntmps138 (rvs:=[.cell 2 123]) Tryz.results138 rfl fun hl=>?_
 refine cast (show (let k_5:Prop:=w.front.disk.safe=w.front.disk.safe;let k_4:Prop:=q_f w.front.disk.notes w.front.disk.notes;let k_3:Prop:=cnRs nilR=cnRs nilR/\i_0=i_0/\cnRs nilR=cnRs nilR/\cnRs nilR=cnRs nilR/\cnRs nilR=cnRs nilR/\cnRs nilR=cnRs nilR/\cnRs nilR=cnRs nilR;let k_2:Prop:=q_e w.front.disk.notes w.front.disk.notes/\k_5/\q_h w.front.way w.front.way/\q_l w.disks w.disks/\q_g w.net w.net/\q_m w.ops w.ops/\q_k w.outs w.outs;let k_1:Prop:=cnRs (appR (raw []) (typ dMsg eMsg w.net))=cnRs (appR (raw []) (typ dMsg eMsg w.net))/\cnRs (appR (raw []) (typ dOpr eOpr w.ops))=cnRs (appR (raw []) (typ dOpr eOpr w.ops))/\cnRs (appR (raw []) (typ dFOut eFOut w.outs))=cnRs (appR (raw []) (typ dFOut eFOut w.outs));∃ (b:Front),(q_e w.front.disk.notes b.disk.notes/\w.front.disk.safe=b.disk.safe/\q_h w.front.way b.way)/\smallF b/\(n_0+w.net.length)*n_88<=n_140737488355328/\(n_0+w.ops.length)*n_56<=n_140737488355328/\(n_0+w.outs.length)*n_16<=n_140737488355328/\(∃ (pre:List Disk×Nat->Prop),∃ (μ:List Disk×Nat->Nat),∃ (x0:List Disk×Nat),(k_2/\k_3/\(q_f b.disk.notes w.front.disk.notes/\b.disk.safe=w.front.disk.safe/\q_j b.way w.front.way/\cnRs nilR=t_n x0.1/\k_1)/\i_0=zi x0.2)/\pre x0/\(∀ (x:List Disk×Nat),pre x->(decide (zi x.2<zi w.disks.length)=true->(i_0<=zi x.2/\zi x.2<zi w.disks.length)/\(∃ (b:Disk),(q_e (g_Disk w.disks x.2).notes b.notes/\(g_Disk w.disks x.2).safe=b.safe)/\smallD b/\(x.1.length+n_1)*n_32<=n_140737488355328/\(∃ (y:List Disk×Nat),(k_2/\k_3/\(k_4/\k_5/\q_j w.front.way w.front.way/\cnRs (appR (typ dDisk eDiskO x.1) (raw [[CV.ow n_72 (typ dNote eNoteO b.notes),cn_ b.safe]]))=t_n y.1/\k_1)/\wr_ ((zi x.2)+i_1)=zi y.2)/\pre y/\μ y<μ x)))/\(decide (zi x.2<zi w.disks.length)=false->k_4/\k_5/\q_j w.front.way w.front.way/\q_n x.1 w.disks/\cnRs (appR (raw []) (typ dMsg eMsg w.net))=t_g w.net/\cnRs (appR (raw []) (typ dOpr eOpr w.ops))=t_m w.ops/\cnRs (appR (raw []) (typ dFOut eFOut w.outs))=t_k w.outs))))=_ by kernel_rfl) ?_
 delta i_0 i_1 wr_ zi n_0 n_140737488355328 n_1 cn_ n_16 t_e q_e t_f q_f t_g q_g n_88 t_h q_h t_j q_j t_k q_k t_l t_m q_l q_m n_72 g_Disk t_n q_n n_56 n_32
 obtain ⟨p1,p2,p3,p4,p5,p6⟩:=hpre
 simp only [zza,zzb,true_and,and_true,and_self,ne_eq,cI_app,cWrtO_app,cWrtS_app,cWrtO_1,cItemO_1,opr_ex,zcast,frz_nil,nil_map,Option.getD_none,Option.getD_some]
 refine ⟨p1,by omega,by omega,by omega,fun x=>x.2<=w.disks.length/\x.1=w.disks.take x.2,⟨Nat.zero_le _,rfl⟩,fun x=>w.disks.length-x.2,fun a i hp=>?_⟩
 obtain ⟨h1,h2⟩:=hp
 simp only at h1 h2
 subst h2
 refine ⟨fun hlt=>?_,fun hge=>?_⟩
 ·have hm:w.disks.getD i dDisk∈w.disks:=by rw [getD_lt (by omega)];exact List.getElem_mem _
  refine ⟨by omega,hlt,p3 _ hm,by rw [List.length_take];omega,w.disks.take (i+1),?_,i+1,wrapN (by omega),⟨by simp only;omega,rfl⟩,by simp only;omega⟩
  rw [take_succ (d:=dDisk) (by omega)]
  simp
 ·have:i=w.disks.length:=by omega
  subst this
  simp
def spec_l7Copy_c:Con Tryz.prog:=conP [.lend] fun (b:Wld) h=>spec_l7Copy_ok b h
end Go.Proofs.AI
namespace Go.Proofs.AI
open Go.RowKit Go.Proofs
set_option linter.unusedVariables false
set_option linter.unusedSimpArgs false
set_option maxRecDepth 100000
def tameM (m:Msg):Prop:=(0<=m.to/\m.to<=3)/\(m.to=0->1<=m.frm/\m.frm<=3)
structure tame (w:Wld):Prop where
 fd:diskB w.front.disk=true
 way:∀ t∈w.front.way,ris3 t.can/\ris3 t.know
 wl:w.front.way.length<=30+w.ops.length
 d3:w.disks.length=3
 dd:∀ d∈w.disks,diskB d=true
 nl:w.net.length<=60
 nm:∀ m∈w.net,tameM m
 ol:w.ops.length<=30
 ul:w.outs.length<=30
def doW (w:Wld) (o:Opr):Wld :=
 if opOk o=true/\w.ops.length<=29 then (if (beginF w.front w.ops.length o).2.2=true then ⟨(beginF w.front w.ops.length o).1,w.disks,sendN w.net (beginF w.front w.ops.length o).2.1,w.ops++[o],w.outs⟩ else w) else w
def heardF (w:Wld) (net:List Msg) (m:Msg):Wld:=⟨(hearF w.front m).1,w.disks,sendN net (hearF w.front m).2.1,w.ops,outsN w.outs (hearF w.front m).2.2⟩
def heardD (w:Wld) (net:List Msg) (m:Msg):Wld:=⟨w.front,w.disks.set (m.to-1).toNat (hearD m.to (w.disks.getD (m.to-1).toNat dDisk) m).1,sendN net (hearD m.to (w.disks.getD (m.to-1).toNat dDisk) m).2,w.ops,w.outs⟩
def heardW (w:Wld) (k:Nat):Wld:=if (w.net.getD k dMsg).to=0 then heardF w (w.net.eraseIdx k) (w.net.getD k dMsg) else heardD w (w.net.eraseIdx k) (w.net.getD k dMsg)
def netW (w:Wld) (e:Evt):Wld :=
 if inR e.at_ 0 (w.net.length-1)=true then
  (if e.kind=2 then heardW w e.at_.toNat
  else if e.kind=4 then (if w.net.length<60 then ⟨w.front,w.disks,w.net++[w.net.getD e.at_.toNat dMsg],w.ops,w.outs⟩ else w)
  else ⟨w.front,w.disks,w.net.eraseIdx e.at_.toNat,w.ops,w.outs⟩) else w
def placeW (w:Wld) (e:Evt):Wld :=
 if inR e.place 0 3=true then
  (if e.kind=5/\e.place=0 then ⟨w.front,w.disks,sendN w.net (tickF w.front),w.ops,w.outs⟩
  else if e.kind=5 then ⟨w.front,w.disks,sendN w.net (tickD e.place (w.disks.getD (e.place-1).toNat dDisk)),w.ops,w.outs⟩
  else if e.place=0 then ⟨fallF w.front e.keep,w.disks,w.net,w.ops,w.outs⟩
  else ⟨w.front,w.disks.set (e.place-1).toNat (fallD (w.disks.getD (e.place-1).toNat dDisk) e.keep),w.net,w.ops,w.outs⟩) else w
def stepE (w:Wld) (e:Evt):Wld :=
 if e.kind=1 then doW w e.op
 else if e.kind=2∨e.kind=3∨e.kind=4 then netW w e
 else if e.kind=5∨e.kind=7 then placeW w e
 else if e.kind=6 then ⟨(giveF w.front e.at_).1,w.disks,sendN w.net (giveF w.front e.at_).2.1,w.ops,outsN w.outs (giveF w.front e.at_).2.2⟩
 else w
theorem cSetD (l:List Disk) (k:Nat) (hk:k<l.length) (d:Disk):cnRs ⟨l.length,fun i=>if i=k then setAt (eDiskS (l.getD k dDisk)) 0 (List.map cvOf [SC.c (sNotes d.notes),SC.c (.n .i64 d.safe)]) else eDiskS (l.getD i dDisk)⟩=(l.set k d).map nDiskS:=by
 rw [<- cDiskS]
 congr 1
 simp only [typ,List.length_set]
 congr 1
 funext i
 by_cases h:i=k
 ·subst h
  rw [if_pos rfl,getD_set_eq _ hk]
  simp [setAt,eDiskS,cvOf]
 ·rw [if_neg h]
  have:(l.set k d).getD i dDisk=l.getD i dDisk:=by simp [List.getD,List.getElem?_set,Ne.symm h]
  rw [this]
theorem fDisk1 (x:Disk):frozenR (eDiskS x)=eDiskS x:=by simp [eDiskS,frozenR,frozen]
theorem cMsgErase (l:List Msg) (k:Nat) (hk:k<l.length):cnRs (appR (appR (raw []) (cutR (typ dMsg eMsg l) 0 k)) (cutR (typ dMsg eMsg l) (k+1) l.length))=(l.eraseIdx k).map nMsg:=by
 rw [cnRs_app,cnRs_app,cut_typ _ (by omega),cut_typ _ (Nat.le_refl _),List.take_length,List.drop_zero,cMsg,cMsg,cnRs_raw,List.map_nil,List.nil_append,<- List.map_append,<- List.eraseIdx_eq_take_drop_succ]
theorem msg1 (l:List Msg) (m:Msg):cnRs (appR (typ dMsg eMsg l) (raw [eMsg m]))=(l++[m]).map nMsg:=by
 simp [eMsg]
theorem opr1 (l:List Opr) (o:Opr):cnRs (appR (typ dOpr eOpr l) (raw [eOpr o]))=(l++[o]).map nOpr:=by
 simp [eOpr]
theorem l6BeginNo_ok (f:Front) (tx:Int) (o:Opr) (hpre:noBegin f tx/\f.disk.notes.length<=1000/\f.way.length<=1000):FunOK Tryz.prog 97 3 [] [(0,kFrontS f),(1,kI tx),(2,kOp o)] (·=[(3,⟨.tup [(true,3),(false,1),(false,1)],[.c .any,.c .any,.c .any,.c (oMsgs []),.c (.b false)],[]⟩)]):=by
 refine fun_to (E:=⟨tab,ctOf [spec_l2Of_c,spec_l6At_c,spec_l6Send_c,spec_OpPlaces_c],69,[],[(0,[1,3,5,6,53,54,63,68]),(1,[1,3,5,6,52,53,54,63,68]),(2,[3,6,7,8,53,54,63,68]),(3,[1,3,5,6,53,54,63]),(4,[3,6,7,8,53,54,63,68])],[],[],[(1,⟨Bool,fun x=>[(1,(k1 (.n .i64 tx))),(3,⟨.box,[.c (.sh 72 (typ dNote eNoteS f.disk.notes)),.c (.n .i64 f.disk.safe),.c (.sh 36 (typ dFTx eFTxS f.way))],[]⟩),(5,⟨.box,[.c (.n .i64 o.kind),.c (.n .i64 o.who),.c (.n .i64 o.inn),.c (.n .i64 o.code),.c (.n .i64 o.sec),.c (.n .i64 o.fam),.c (.n .i64 o.gen)],[]⟩),(6,⟨.box,[.c (.ow 72 nilR),.c (.n .i64 ((0:Int))),.c (.ow 36 nilR)],[]⟩),(52,(k1 (.b (x))))]⟩)],[]⟩) tab_ok mixed Tryz.func97 rfl Tryz.ntmps97 (rvs:=[.cell 6 28,.tmp 7,.tmp 8]) Tryz.results97 rfl fun hl=>?_
 refine cast (show (let k_3:Prop:=cnRs nilR=cnRs nilR/\i_0=i_0/\cnRs nilR=cnRs nilR;let k_2:Prop:=q_e f.disk.notes f.disk.notes/\f.disk.safe=f.disk.safe/\q_h f.way f.way;let k_1:Prop:=o.kind=o.kind/\o.who=o.who/\o.inn=o.inn/\o.code=o.code/\o.sec=o.sec/\o.fam=o.fam/\o.gen=o.gen;∃ (post:Bool->Prop),let k_5:Prop:=∃ (x:Bool),(tx=tx/\k_2/\k_1/\k_3/\true=x)/\post x;let k_4:Prop:=∃ (x:Bool),(tx=tx/\k_2/\k_1/\k_3/\decide (wr_ (wr_ ((zi f.disk.notes.length)+wr_ (i_2*(zi f.way.length)))+i_2)>i_120)=x)/\post x;(∃ (b:Front×Int),((q_e f.disk.notes b.1.disk.notes/\f.disk.safe=b.1.disk.safe/\q_h f.way b.1.way)/\tx=b.2)/\(decide (atF b.1.way b.2≥i_0)=false->∃ (b:List Note×Int),(q_e f.disk.notes b.1/\tx=b.2)/\((ofN b.1 b.2 != i_0)=false->(decide ((zi f.way.length)>i_0)=true->(i_0<=wr_ ((zi f.way.length)-i_1)/\wr_ ((zi f.way.length)-i_1)<zi f.way.length)/\(decide ((f.way.getD (wr_ ((zi f.way.length)-i_1)).toNat dFTx).tx>tx)=false->k_4)/\(decide ((f.way.getD (wr_ ((zi f.way.length)-i_1)).toNat dFTx).tx>tx)=true->k_5))/\(decide ((zi f.way.length)>i_0)=false->k_4))/\((ofN b.1 b.2 != i_0)=true->k_5))/\(decide (atF b.1.way b.2≥i_0)=true->k_5))/\(∀ (x:Bool),post x->(x=true->True/\True/\True/\cnRs (raw [])=t_g []/\false=false)/\(x=false->False)))=_ by kernel_rfl) ?_
 delta i_0 i_1 i_2 wr_ zi t_e q_e i_120 t_g t_h q_h
 obtain ⟨p0,p1,p2⟩:=hpre
 simp only [zza,zzb,true_and,and_true,and_self,ne_eq,cI_app,cWrtO_app,cWrtS_app,cWrtO_1,cItemO_1,opr_ex,zcast,frz_nil,nil_map,Option.getD_none,Option.getD_some]
 have e1:IntKind.i64.wrap (2*(f.way.length:Int))=2*(f.way.length:Int):=IntWalk.i64_in _ (by omega)
 rw [e1,IntWalk.i64_in ((f.disk.notes.length:Int)+2*(f.way.length:Int)) (by omega),IntWalk.i64_in ((f.disk.notes.length:Int)+2*(f.way.length:Int)+2) (by omega)]
 refine ⟨fun z=>(z=true↔noBegin f tx),fun h1=>⟨fun h2=>⟨fun h4=>?_,fun h4=>?_⟩,fun h2=>?_⟩,fun h1=>?_,fun z hz h=>?_⟩
 ·have hw:IntKind.i64.wrap ((f.way.length:Int)-1)=((f.way.length-1:Nat):Int):=by rw [IntWalk.i64_in _ (by omega)];omega
  rw [hw,Int.toNat_natCast]
  simp at h2
  refine ⟨by omega,by omega,fun h5=>?_,fun h5=>?_⟩
  ·simp only [noBegin,decide_eq_true_eq,h2];omega
  ·simp only [noBegin,true_iff];right;right;left;exact ⟨by omega,h5⟩
 ·simp at h2
  simp only [noBegin,decide_eq_true_eq,h2];omega
 ·simp only [noBegin,true_iff];exact .inr (.inl h2)
 ·simp only [noBegin,true_iff];exact .inl h1
 ·rw [hz.2 p0] at h;cases h
def l6BeginNo_c:Con Tryz.prog:=conP [.lend,.lend,.lend] fun (b:Front×Int×Opr) h=>l6BeginNo_ok (b.1) (b.2.1) (b.2.2) h
theorem l7DoNo_ok (w:Wld) (o:Opr) (hpre:tame w/\noBegin w.front w.ops.length):FunOK Tryz.prog 177 2 [] [(0,kWldM w),(1,kOp o)] (·=[(2,kWldM w)]):=by
 refine fun_to (E:=⟨tab,ctOf [spec_OpOk_c,spec_l6Begin_c,spec_l7Send_c],43,[],[(0,[2,3,4,17,31,42]),(1,[2,3,4,16,17,31,42]),(2,[2,4,17,31,42]),(3,[2,3,4,5,6,7,17,18,25,27,31,42]),(4,[2,3,4,5,6,17,18,25,27,30,31,42]),(5,[2,4,17,31,42]),(6,[2,3,4,6,17,18,25,27,31,42]),(7,[2,4,6,17,18,25,27,31,42]),(8,[2,4,17,31,42])],[],[(7,[(1000002,[])]),(8,[(1000001,[])])],[(1,⟨Bool,fun x=>[(2,⟨.box,[.c (.sh 72 (typ dNote eNoteS w.front.disk.notes)),.c (.n .i64 w.front.disk.safe),.c (.ow 36 (typ dFTx eFTxS w.front.way)),.c (.ow 25 (typ dDisk eDiskS w.disks)),.c (.ow 63 (typ dMsg eMsg w.net)),.c (.ow 33 (typ dOpr eOpr w.ops)),.c (.ow 79 (typ dFOut eFOut w.outs))],[]⟩),(3,⟨.box,[.c (.n .i64 o.kind),.c (.n .i64 o.who),.c (.n .i64 o.inn),.c (.n .i64 o.code),.c (.n .i64 o.sec),.c (.n .i64 o.fam),.c (.n .i64 o.gen)],[]⟩),(4,⟨.box,[.c (.ow 72 nilR),.c (.n .i64 ((0:Int))),.c (.ow 36 nilR),.c (.ow 25 nilR),.c (.ow 63 nilR),.c (.ow 33 nilR),.c (.ow 79 nilR)],[]⟩),(16,(k1 (.b (x))))]⟩)],[(3,[l6BeginNo_c])]⟩) tab_ok mixed Tryz.func177 rfl Tryz.ntmps177 (rvs:=[.cell 4 123]) Tryz.results177 rfl fun hl=>?_
 refine cast (show (let k_5:Prop:=True/\True/\True/\True/\True/\True/\True/\True;let k_4:Prop:=∀ (k:Nat),True/\True/\True/\True/\k_5;let k_3:Prop:=o.kind=o.kind/\o.who=o.who/\o.inn=o.inn/\o.code=o.code/\o.sec=o.sec/\o.fam=o.fam/\o.gen=o.gen;let k_2:Prop:=cnRs nilR=cnRs nilR/\i_0=i_0/\cnRs nilR=cnRs nilR/\cnRs nilR=cnRs nilR/\cnRs nilR=cnRs nilR/\cnRs nilR=cnRs nilR/\cnRs nilR=cnRs nilR;let k_1:Prop:=q_e w.front.disk.notes w.front.disk.notes/\w.front.disk.safe=w.front.disk.safe/\q_h w.front.way w.front.way/\q_l w.disks w.disks/\q_g w.net w.net/\q_m w.ops w.ops/\q_k w.outs w.outs;∃ (post:Bool->Prop),(∃ (b:Opr),(o.kind=b.kind/\o.who=b.who/\o.inn=b.inn/\o.code=b.code/\o.sec=b.sec/\o.fam=b.fam/\o.gen=b.gen)/\((!opOk b)=false->∃ (x:Bool),(k_1/\k_3/\k_2/\decide ((zi w.ops.length)>i_29)=x)/\post x)/\((!opOk b)=true->∃ (x:Bool),(k_1/\k_3/\k_2/\true=x)/\post x))/\(∀ (x:Bool),post x->(x=true->k_1)/\(x=false->∃ (b:Front×Int×Opr),((q_e w.front.disk.notes b.1.disk.notes/\w.front.disk.safe=b.1.disk.safe/\cnRs (frozenRs (typ dFTx eFTxS w.front.way))=t_h b.1.way)/\zi w.ops.length=b.2.1/\o.kind=b.2.2.kind/\o.who=b.2.2.who/\o.inn=b.2.2.inn/\o.code=b.2.2.code/\o.sec=b.2.2.sec/\o.fam=b.2.2.fam/\o.gen=b.2.2.gen)/\(noBegin b.1 b.2.1/\b.1.disk.notes.length<=n_1000/\b.1.way.length<=n_1000)/\((True/\True/\True/\k_4/\True/\True)/\True)/\((!false)=true->k_1)/\((!false)=false->(w.ops.length+n_1)*n_56<=n_140737488355328/\(∃ (b:Wld×List Msg),((False/\False/\False/\q_l w.disks b.1.disks/\q_g w.net b.1.net/\cnRs (appR (typ dOpr eOpr w.ops) (raw [[cn_ o.kind,cn_ o.who,cn_ o.inn,cn_ o.code,cn_ o.sec,cn_ o.fam,cn_ o.gen]]))=t_m b.1.ops/\q_k w.outs b.1.outs)/\cnRs (frozenRs (typ dMsg eMsg []))=t_g b.2)/\b.1.net.length<=n_1000/\((False/\True/\(∀ (k:Nat),True/\True/\True/\True/\True/\True/\True/\True/\True/\False/\False/\True)/\(∀ (k:Nat),False/\True/\True)/\k_4/\(∀ (k:Nat),k_5)/\(∀ (k:Nat),True/\True/\True)/\True)/\True)/\q_e b.1.front.disk.notes w.front.disk.notes/\b.1.front.disk.safe=w.front.disk.safe/\q_h b.1.front.way w.front.way/\q_l b.1.disks w.disks/\q_g (sendN b.1.net b.2) w.net/\q_m b.1.ops w.ops/\q_k b.1.outs w.outs)))))=_ by kernel_rfl) ?_
 delta i_0 zi n_140737488355328 n_1 n_1000 cn_ i_29 t_e q_e t_g q_g t_h q_h t_k q_k t_l t_m q_l q_m n_56
 obtain ⟨p0,p1⟩:=hpre
 have a1:=p0.wl
 have a2:=(diskB_small p0.fd).2.1
 have a3:=p0.ol
 simp only [zza,zzb,true_and,and_true,and_self,ne_eq,cI_app,cWrtO_app,cWrtS_app,cWrtO_1,cItemO_1,opr_ex,zcast,frz_nil,nil_map,Option.getD_none,Option.getD_some]
 exact ⟨fun _=>True,fun _=>trivial,fun _=>trivial,fun x _ hx=>⟨p1,by omega,by omega,fun h=>absurd h (by simp)⟩⟩
theorem l7DoYes_ok (w:Wld) (o:Opr) (hpre:tame w/\¬ noBegin w.front w.ops.length):FunOK Tryz.prog 177 2 [] [(0,kWldM w),(1,kOp o)] (·=[(2,kWldM (doW w o))]):=by
 refine fun_to (E:=⟨tab,ctOf [spec_OpOk_c,spec_l6Begin_c,spec_l7Send_c],43,[],[(0,[2,3,4,17,31,42]),(1,[2,3,4,16,17,31,42]),(2,[2,4,17,31,42]),(3,[2,3,4,5,6,7,17,18,25,27,31,42]),(4,[2,3,4,5,6,17,18,25,27,30,31,42]),(5,[2,4,17,31,42]),(6,[2,3,4,6,17,18,25,27,31,42]),(7,[2,4,6,17,18,25,27,31,42]),(8,[2,4,17,31,42])],[],[(3,[(7,[25]),(2000007,[4])]),(7,[(1000002,[])]),(8,[(1000001,[])])],[(1,⟨Bool,fun x=>[(2,⟨.box,[.c (.sh 72 (typ dNote eNoteS w.front.disk.notes)),.c (.n .i64 w.front.disk.safe),.c (.ow 36 (typ dFTx eFTxS w.front.way)),.c (.ow 25 (typ dDisk eDiskS w.disks)),.c (.ow 63 (typ dMsg eMsg w.net)),.c (.ow 33 (typ dOpr eOpr w.ops)),.c (.ow 79 (typ dFOut eFOut w.outs))],[]⟩),(3,⟨.box,[.c (.n .i64 o.kind),.c (.n .i64 o.who),.c (.n .i64 o.inn),.c (.n .i64 o.code),.c (.n .i64 o.sec),.c (.n .i64 o.fam),.c (.n .i64 o.gen)],[]⟩),(4,⟨.box,[.c (.ow 72 nilR),.c (.n .i64 ((0:Int))),.c (.ow 36 nilR),.c (.ow 25 nilR),.c (.ow 63 nilR),.c (.ow 33 nilR),.c (.ow 79 nilR)],[]⟩),(16,(k1 (.b (x))))]⟩)],[(3,[spec_l6Begin_c])]⟩) tab_ok mixed Tryz.func177 rfl Tryz.ntmps177 (rvs:=[.cell 4 123]) Tryz.results177 rfl fun hl=>?_
 refine cast (show (let k_6:Prop:=w.front.disk.safe=(doW w o).front.disk.safe;let k_5:Prop:=q_e w.front.disk.notes (doW w o).front.disk.notes;let k_4:Prop:=q_l w.disks (doW w o).disks/\q_g w.net (doW w o).net/\q_m w.ops (doW w o).ops/\q_k w.outs (doW w o).outs;let k_3:Prop:=o.kind=o.kind/\o.who=o.who/\o.inn=o.inn/\o.code=o.code/\o.sec=o.sec/\o.fam=o.fam/\o.gen=o.gen;let k_2:Prop:=cnRs nilR=cnRs nilR/\i_0=i_0/\cnRs nilR=cnRs nilR/\cnRs nilR=cnRs nilR/\cnRs nilR=cnRs nilR/\cnRs nilR=cnRs nilR/\cnRs nilR=cnRs nilR;let k_1:Prop:=q_e w.front.disk.notes w.front.disk.notes/\w.front.disk.safe=w.front.disk.safe/\q_h w.front.way w.front.way/\q_l w.disks w.disks/\q_g w.net w.net/\q_m w.ops w.ops/\q_k w.outs w.outs;∃ (post:Bool->Prop),(∃ (b:Opr),(o.kind=b.kind/\o.who=b.who/\o.inn=b.inn/\o.code=b.code/\o.sec=b.sec/\o.fam=b.fam/\o.gen=b.gen)/\((!opOk b)=false->∃ (x:Bool),(k_1/\k_3/\k_2/\decide ((zi w.ops.length)>i_29)=x)/\post x)/\((!opOk b)=true->∃ (x:Bool),(k_1/\k_3/\k_2/\true=x)/\post x))/\(∀ (x:Bool),post x->(x=true->k_5/\k_6/\q_h w.front.way (doW w o).front.way/\k_4)/\(x=false->∃ (b:Front×Int×Opr),((q_e w.front.disk.notes b.1.disk.notes/\w.front.disk.safe=b.1.disk.safe/\q_h w.front.way b.1.way)/\zi w.ops.length=b.2.1/\o.kind=b.2.2.kind/\o.who=b.2.2.who/\o.inn=b.2.2.inn/\o.code=b.2.2.code/\o.sec=b.2.2.sec/\o.fam=b.2.2.fam/\o.gen=b.2.2.gen)/\(b.1.disk.notes.length<=n_1000/\b.1.way.length<=n_1000)/\((!(beginF b.1 b.2.1 b.2.2).2.2)=true->k_5/\k_6/\False/\k_4)/\((!(beginF b.1 b.2.1 b.2.2).2.2)=false->(w.ops.length+n_1)*n_56<=n_140737488355328/\(∃ (b_1:Wld×List Msg),((q_e (beginF b.1 b.2.1 b.2.2).1.disk.notes b_1.1.front.disk.notes/\(beginF b.1 b.2.1 b.2.2).1.disk.safe=b_1.1.front.disk.safe/\cnRs (frozenRs (typ dFTx eFTxS (beginF b.1 b.2.1 b.2.2).1.way))=t_h b_1.1.front.way/\q_l w.disks b_1.1.disks/\q_g w.net b_1.1.net/\cnRs (appR (typ dOpr eOpr w.ops) (raw [[cn_ o.kind,cn_ o.who,cn_ o.inn,cn_ o.code,cn_ o.sec,cn_ o.fam,cn_ o.gen]]))=t_m b_1.1.ops/\q_k w.outs b_1.1.outs)/\cnRs (frozenRs (typ dMsg eMsg (beginF b.1 b.2.1 b.2.2).2.1))=t_g b_1.2)/\b_1.1.net.length<=n_1000/\q_e b_1.1.front.disk.notes (doW w o).front.disk.notes/\b_1.1.front.disk.safe=(doW w o).front.disk.safe/\q_h b_1.1.front.way (doW w o).front.way/\q_l b_1.1.disks (doW w o).disks/\q_g (sendN b_1.1.net b_1.2) (doW w o).net/\q_m b_1.1.ops (doW w o).ops/\q_k b_1.1.outs (doW w o).outs)))))=_ by kernel_rfl) ?_
 delta i_0 zi n_140737488355328 n_1 n_1000 cn_ i_29 t_e q_e t_g q_g t_h q_h t_k q_k t_l t_m q_l q_m n_56
 obtain ⟨p0,p1⟩:=hpre
 have a1:=p0.wl
 have a2:=(diskB_small p0.fd).2.1
 have a3:=p0.ol
 have a4:=p0.nl
 have hb:(beginF w.front w.ops.length o).2.2=true:=by simp only [beginF,if_neg p1]
 simp only [zza,zzb,true_and,and_true,and_self,ne_eq,cI_app,cWrtO_app,cWrtS_app,cWrtO_1,cItemO_1,opr_ex,zcast,frz_nil,nil_map,Option.getD_none,Option.getD_some]
 refine ⟨fun z=>(z=true↔¬ (opOk o=true/\w.ops.length<=29)),fun h=>?_,fun h=>?_,fun z hz=>⟨fun h=>?_,fun h=>?_⟩⟩
 ·simp at h
  simp only [decide_eq_true_eq,h,true_and];omega
 ·simp at h
  simp [h]
 ·have hd:doW w o=w:=by simp only [doW,if_neg (hz.1 h)]
  simp only [hd,and_self]
 ·have hc:opOk o=true/\w.ops.length<=29:=Classical.byContradiction fun hc=>by rw [hz.2 hc] at h;cases h
  have hd:doW w o=⟨(beginF w.front w.ops.length o).1,w.disks,sendN w.net (beginF w.front w.ops.length o).2.1,w.ops++[o],w.outs⟩:=by simp only [doW,if_pos hc,if_pos hb]
  rw [hd,hb]
  refine ⟨by omega,by omega,fun h=>absurd h (by simp),fun _=>⟨by omega,⟨(beginF w.front w.ops.length o).1,w.disks,w.net,w.ops++[o],w.outs⟩,rfl,rfl,rfl,rfl,rfl,opr1 _ _,rfl,?_,rfl,rfl,rfl,rfl,rfl,rfl,rfl⟩⟩
  show w.net.length<=1000
  omega
theorem spec_l7Hear_ok (w:Wld) (k:Nat) (hpre:tame w/\k<w.net.length):FunOK Tryz.prog 205 2 [] [(0,kWldM w),(1,kI k)] (·=[(2,kWldM (heardW w k))]):=by
 refine fun_to (E:=⟨tab,ctOf [spec_l7Outs_c,spec_l7Send_c,spec_l6Hear_c,spec_PlcHear_c],73,[],[(0,[1,2,4,48,72]),(1,[1,2,4,5,48,72]),(2,[1,2,4,5,6,17,18,19,20,21,22,48,72]),(3,[2,4,5,48,72]),(4,[2,4,5,33,48,72]),(5,[2,4,7,8,9,34,38,40,41,48,72]),(6,[2,4,8,9,34,38,40,41,48,72]),(7,[4,48,72]),(8,[2,4,5,10,11,48,49,60,62,72]),(9,[2,4,11,48,49,60,62,72]),(10,[4,48,72])],[],[(2,[(0,[2]),(2000000,[111])]),(3,[(1000000,[])]),(5,[(4,[38]),(2000004,[4])]),(7,[(1000001,[]),(1000003,[])]),(8,[(11,[60])]),(10,[(1000001,[])])],[],[]⟩) tab_ok mixed Tryz.func205 rfl Tryz.ntmps205 (rvs:=[.cell 4 123]) Tryz.results205 rfl fun hl=>?_
 refine cast (show (let k_2:Prop:=(wr_ ((g_Msg w.net k).to-i_1)).toNat<w.disks.length;let k_1:Prop:=i_0<=wr_ ((g_Msg w.net k).to-i_1)/\wr_ ((g_Msg w.net k).to-i_1)<zi w.disks.length;(i_0<=zi k/\zi k<zi w.net.length)/\(zi k).toNat<w.net.length/\(i_0<=none.getD i_0/\none.getD i_0<=(some (zi k)).getD (zi w.net.length)/\(some (zi k)).getD (zi w.net.length)<=zi w.net.length)/\(n_0+(((some (zi k)).getD (zi w.net.length)).toNat-(none.getD i_0).toNat))*n_88<=n_140737488355328/\(i_0<=(some (wr_ ((zi k)+i_1))).getD i_0/\(some (wr_ ((zi k)+i_1))).getD i_0<=none.getD (zi w.net.length)/\none.getD (zi w.net.length)<=zi w.net.length)/\(n_0+(((some (zi k)).getD (zi w.net.length)).toNat-(none.getD i_0).toNat)+((none.getD (zi w.net.length)).toNat-((some (wr_ ((zi k)+i_1))).getD i_0).toNat))*n_88<=n_140737488355328/\(((g_Msg w.net k).to==i_0)=true->∃ (b:Front×Msg),((q_e w.front.disk.notes b.1.disk.notes/\w.front.disk.safe=b.1.disk.safe/\cnRs (frozenRs (typ dFTx eFTxS w.front.way))=t_h b.1.way)/\(g_Msg w.net k).kind=b.2.kind/\(g_Msg w.net k).to=b.2.to/\(g_Msg w.net k).frm=b.2.frm/\(g_Msg w.net k).tx=b.2.tx/\(g_Msg w.net k).op.kind=b.2.op.kind/\(g_Msg w.net k).op.who=b.2.op.who/\(g_Msg w.net k).op.inn=b.2.op.inn/\(g_Msg w.net k).op.code=b.2.op.code/\(g_Msg w.net k).op.sec=b.2.op.sec/\(g_Msg w.net k).op.fam=b.2.op.fam/\(g_Msg w.net k).op.gen=b.2.op.gen)/\(b.1.way.length<=n_1000/\(∀ (t:FTx),t∈b.1.way->smallT t))/\(∃ (b_1:Wld×List Msg),((q_e (hearF b.1 b.2).1.disk.notes b_1.1.front.disk.notes/\(hearF b.1 b.2).1.disk.safe=b_1.1.front.disk.safe/\cnRs (frozenRs (typ dFTx eFTxS (hearF b.1 b.2).1.way))=t_h b_1.1.front.way/\cnRs (frozenRs (typ dDisk eDiskS w.disks))=t_l b_1.1.disks/\cnRs (appR (appR (raw []) (cutR (frozenRs (typ dMsg eMsg w.net)) (none.getD i_0).toNat ((some (zi k)).getD (zi w.net.length)).toNat)) (cutR (frozenRs (typ dMsg eMsg w.net)) ((some (wr_ ((zi k)+i_1))).getD i_0).toNat (none.getD (zi w.net.length)).toNat))=t_g b_1.1.net/\cnRs (frozenRs (typ dOpr eOpr w.ops))=t_m b_1.1.ops/\cnRs (frozenRs (typ dFOut eFOut w.outs))=t_k b_1.1.outs)/\cnRs (frozenRs (typ dMsg eMsg (hearF b.1 b.2).2.1))=t_g b_1.2)/\b_1.1.net.length<=n_1000/\(∃ (b_2:Wld×List FOut),((q_e b_1.1.front.disk.notes b_2.1.front.disk.notes/\b_1.1.front.disk.safe=b_2.1.front.disk.safe/\q_h b_1.1.front.way b_2.1.front.way/\q_l b_1.1.disks b_2.1.disks/\q_g (sendN b_1.1.net b_1.2) b_2.1.net/\q_m b_1.1.ops b_2.1.ops/\q_k b_1.1.outs b_2.1.outs)/\cnRs (frozenRs (typ dFOut eFOut (hearF b.1 b.2).2.2))=t_k b_2.2)/\b_2.1.outs.length<=n_1000/\q_e b_2.1.front.disk.notes (heardW w k).front.disk.notes/\b_2.1.front.disk.safe=(heardW w k).front.disk.safe/\q_h b_2.1.front.way (heardW w k).front.way/\q_l b_2.1.disks (heardW w k).disks/\q_g b_2.1.net (heardW w k).net/\q_m b_2.1.ops (heardW w k).ops/\q_k (outsN b_2.1.outs b_2.2) (heardW w k).outs)))/\(((g_Msg w.net k).to==i_0)=false->k_1/\k_2/\(∃ (b:Int×Disk×Msg),((g_Msg w.net k).to=b.1/\(q_e (w.disks.getD (wr_ ((g_Msg w.net k).to-i_1)).toNat dDisk).notes b.2.1.notes/\(w.disks.getD (wr_ ((g_Msg w.net k).to-i_1)).toNat dDisk).safe=b.2.1.safe)/\(g_Msg w.net k).kind=b.2.2.kind/\(g_Msg w.net k).to=b.2.2.to/\(g_Msg w.net k).frm=b.2.2.frm/\(g_Msg w.net k).tx=b.2.2.tx/\(g_Msg w.net k).op.kind=b.2.2.op.kind/\(g_Msg w.net k).op.who=b.2.2.op.who/\(g_Msg w.net k).op.inn=b.2.2.op.inn/\(g_Msg w.net k).op.code=b.2.2.op.code/\(g_Msg w.net k).op.sec=b.2.2.op.sec/\(g_Msg w.net k).op.fam=b.2.2.op.fam/\(g_Msg w.net k).op.gen=b.2.2.op.gen)/\k_1/\k_2/\(∃ (b_1:Wld×List Msg),((q_e w.front.disk.notes b_1.1.front.disk.notes/\w.front.disk.safe=b_1.1.front.disk.safe/\cnRs (frozenRs (typ dFTx eFTxS w.front.way))=t_h b_1.1.front.way/\cnRs { n:=w.disks.length,f:=fun (i:Nat)=>if i=(wr_ ((g_Msg w.net k).to-i_1)).toNat then setAt (frozenR (eDiskS (w.disks.getD (wr_ ((g_Msg w.net k).to-i_1)).toNat dDisk))) n_0 (List.map cvOf [SC.c (CV.sh n_72 (frozenRs (typ dNote eNoteO (hearD b.1 b.2.1 b.2.2).1.notes))),SC.c (cn_ (hearD b.1 b.2.1 b.2.2).1.safe)]) else frozenR (eDiskS (w.disks.getD i dDisk)) }=t_l b_1.1.disks/\cnRs (appR (appR (raw []) (cutR (frozenRs (typ dMsg eMsg w.net)) (none.getD i_0).toNat ((some (zi k)).getD (zi w.net.length)).toNat)) (cutR (frozenRs (typ dMsg eMsg w.net)) ((some (wr_ ((zi k)+i_1))).getD i_0).toNat (none.getD (zi w.net.length)).toNat))=t_g b_1.1.net/\cnRs (frozenRs (typ dOpr eOpr w.ops))=t_m b_1.1.ops/\cnRs (frozenRs (typ dFOut eFOut w.outs))=t_k b_1.1.outs)/\cnRs (frozenRs (typ dMsg eMsg (hearD b.1 b.2.1 b.2.2).2))=t_g b_1.2)/\b_1.1.net.length<=n_1000/\q_e b_1.1.front.disk.notes (heardW w k).front.disk.notes/\b_1.1.front.disk.safe=(heardW w k).front.disk.safe/\q_h b_1.1.front.way (heardW w k).front.way/\q_l b_1.1.disks (heardW w k).disks/\q_g (sendN b_1.1.net b_1.2) (heardW w k).net/\q_m b_1.1.ops (heardW w k).ops/\q_k b_1.1.outs (heardW w k).outs))))=_ by kernel_rfl) ?_
 delta i_0 i_1 wr_ zi n_0 n_140737488355328 n_1000 cn_ t_e q_e t_g q_g n_88 t_h q_h t_k q_k g_Msg t_l t_m q_l q_m n_72
 obtain ⟨p0,p1⟩:=hpre
 have a1:=p0.wl
 have a3:=p0.ol
 have a4:=p0.nl
 have a5:=p0.ul
 have a6:=p0.d3
 have hm:w.net.getD k dMsg∈w.net:=by rw [getD_lt p1];exact List.getElem_mem p1
 obtain ⟨⟨ht1,ht2⟩,ht3⟩:=p0.nm _ hm
 have he:(w.net.eraseIdx k).length<=60:=by
  simp only [List.length_eraseIdx]
  split<;>omega
 simp only [zza,zzb,true_and,and_true,and_self,ne_eq,cI_app,cWrtO_app,cWrtS_app,cWrtO_1,cItemO_1,opr_ex,zcast,frz_nil,nil_map,Option.getD_none,Option.getD_some]
 have hi:Int.toNat 0=0:=rfl
 rw [hi,wrapN (by omega)]
 simp only [Int.toNat_natCast]
 rw [cMsgErase _ _ p1]
 refine ⟨by omega,by omega,p1,by omega,by omega,by omega,by omega,by omega,by omega,by omega,by omega,fun h0=>?_,fun h0=>?_⟩
 ·refine ⟨by omega,fun t ht=>?_,⟨(hearF w.front (w.net.getD k dMsg)).1,w.disks,w.net.eraseIdx k,w.ops,w.outs⟩,rfl,rfl,rfl,rfl,rfl,rfl,rfl,?_,?_,?_⟩
  ·have:=p0.way t ht
   exact ⟨by have:=ris3_len this.1;omega,by have:=ris3_len this.2;omega⟩
  ·show (w.net.eraseIdx k).length<=1000
   omega
  ·show w.outs.length<=1000
   omega
  ·simp only [heardW,if_pos h0,heardF,and_self]
 ·have hw:IntKind.i64.wrap ((w.net.getD k dMsg).to-1)=(w.net.getD k dMsg).to-1:=IntWalk.i64_in _ (by omega)
  simp only [hw]
  have hk:((w.net.getD k dMsg).to-1).toNat<w.disks.length:=by omega
  refine ⟨by omega,by omega,hk,by omega,by omega,hk,⟨w.front,w.disks.set ((w.net.getD k dMsg).to-1).toNat (hearD (w.net.getD k dMsg).to (w.disks.getD ((w.net.getD k dMsg).to-1).toNat dDisk) (w.net.getD k dMsg)).1,w.net.eraseIdx k,w.ops,w.outs⟩,rfl,rfl,rfl,?_,rfl,rfl,rfl,?_,?_⟩
  ·simp only [fDisk1]
   exact cSetD _ _ hk _
  ·show (w.net.eraseIdx k).length<=1000
   omega
  ·simp only [heardW,if_neg h0,heardD,and_self]
def spec_l7Hear_c:Con Tryz.prog:=conP [.give,.lend] fun (b:Wld×Nat) h=>spec_l7Hear_ok (b.1) (b.2) h
theorem spec_l7Net_ok (w:Wld) (e:Evt) (hpre:tame w):FunOK Tryz.prog 178 2 [] [(0,kWldM w),(1,kEvt e)] (·=[(2,kWldM (netW w e))]):=by
 refine fun_to (E:=⟨tab,ctOf [spec_l1In_c,spec_l7Hear_c],58,[],[(0,[2,3,4,14,22,40,57]),(1,[2,3,4,13,14,22,40,57]),(2,[2,4,14,22,40,57]),(3,[2,3,4,14,16,22,40,57]),(4,[2,3,4,14,16,17,22,40,57]),(5,[2,4,14,22,40,57]),(6,[2,3,4,14,22,23,40,57]),(7,[2,3,4,14,22,28,40,57]),(8,[2,4,14,22,40,57]),(9,[2,4,14,22,40,57]),(10,[2,3,4,5,14,22,40,41,42,43,45,46,47,57]),(11,[2,4,14,22,40,57]),(12,[2,4,14,22,40,57])],[],[(10,[(0,[2]),(2000000,[111])]),(11,[(1000000,[])])],[],[]⟩) tab_ok mixed Tryz.func178 rfl Tryz.ntmps178 (rvs:=[.cell 4 123]) Tryz.results178 rfl fun hl=>?_
 refine cast (show (let k_5:Prop:=q_h w.front.way (netW w e).front.way;let k_4:Prop:=w.front.disk.safe=(netW w e).front.disk.safe;let k_3:Prop:=q_e w.front.disk.notes (netW w e).front.disk.notes;let k_2:Prop:=q_m w.ops (netW w e).ops/\q_k w.outs (netW w e).outs;let k_1:Prop:=k_3/\k_4/\k_5/\q_l w.disks (netW w e).disks/\q_g w.net (netW w e).net/\k_2;∃ (b:Int×Int×Int),(e.at_=b.1/\i_0=b.2.1/\wr_ ((zi w.net.length)-i_1)=b.2.2)/\((!inR b.1 b.2.1 b.2.2)=true->k_1)/\((!inR b.1 b.2.1 b.2.2)=false->((e.kind==i_2)=true->∃ (b:Wld×Nat),((q_e w.front.disk.notes b.1.front.disk.notes/\w.front.disk.safe=b.1.front.disk.safe/\q_h w.front.way b.1.front.way/\q_l w.disks b.1.disks/\q_g w.net b.1.net/\q_m w.ops b.1.ops/\q_k w.outs b.1.outs)/\e.at_=zi b.2)/\(tame b.1/\b.2<b.1.net.length)/\q_e (heardW b.1 b.2).front.disk.notes (netW w e).front.disk.notes/\(heardW b.1 b.2).front.disk.safe=(netW w e).front.disk.safe/\q_h (heardW b.1 b.2).front.way (netW w e).front.way/\q_l (heardW b.1 b.2).disks (netW w e).disks/\q_g (heardW b.1 b.2).net (netW w e).net/\q_m (heardW b.1 b.2).ops (netW w e).ops/\q_k (heardW b.1 b.2).outs (netW w e).outs)/\((e.kind==i_2)=false->((e.kind==i_4)=true->(decide (zi w.net.length<i_60)=true->(i_0<=e.at_/\e.at_<zi w.net.length)/\e.at_.toNat<w.net.length/\(w.net.length+n_1)*n_88<=n_140737488355328/\k_3/\k_4/\k_5/\q_l w.disks (netW w e).disks/\cnRs (appR (typ dMsg eMsg w.net) (raw [[cn_ (w.net.getD e.at_.toNat dMsg).kind,cn_ (w.net.getD e.at_.toNat dMsg).to,cn_ (w.net.getD e.at_.toNat dMsg).frm,cn_ (w.net.getD e.at_.toNat dMsg).tx,cn_ (w.net.getD e.at_.toNat dMsg).op.kind,cn_ (w.net.getD e.at_.toNat dMsg).op.who,cn_ (w.net.getD e.at_.toNat dMsg).op.inn,cn_ (w.net.getD e.at_.toNat dMsg).op.code,cn_ (w.net.getD e.at_.toNat dMsg).op.sec,cn_ (w.net.getD e.at_.toNat dMsg).op.fam,cn_ (w.net.getD e.at_.toNat dMsg).op.gen]]))=t_g (netW w e).net/\k_2)/\(decide (zi w.net.length<i_60)=false->k_1))/\((e.kind==i_4)=false->(i_0<=none.getD i_0/\none.getD i_0<=(some e.at_).getD (zi w.net.length)/\(some e.at_).getD (zi w.net.length)<=zi w.net.length)/\(n_0+(((some e.at_).getD (zi w.net.length)).toNat-(none.getD i_0).toNat))*n_88<=n_140737488355328/\(i_0<=(some (wr_ (e.at_+i_1))).getD i_0/\(some (wr_ (e.at_+i_1))).getD i_0<=none.getD (zi w.net.length)/\none.getD (zi w.net.length)<=zi w.net.length)/\(n_0+(((some e.at_).getD (zi w.net.length)).toNat-(none.getD i_0).toNat)+((none.getD (zi w.net.length)).toNat-((some (wr_ (e.at_+i_1))).getD i_0).toNat))*n_88<=n_140737488355328/\k_3/\k_4/\cnRs (frozenRs (typ dFTx eFTxS w.front.way))=t_h (netW w e).front.way/\cnRs (frozenRs (typ dDisk eDiskS w.disks))=t_l (netW w e).disks/\cnRs (appR (appR (raw []) (cutR (frozenRs (typ dMsg eMsg w.net)) (none.getD i_0).toNat ((some e.at_).getD (zi w.net.length)).toNat)) (cutR (frozenRs (typ dMsg eMsg w.net)) ((some (wr_ (e.at_+i_1))).getD i_0).toNat (none.getD (zi w.net.length)).toNat))=t_g (netW w e).net/\cnRs (frozenRs (typ dOpr eOpr w.ops))=t_m (netW w e).ops/\cnRs (frozenRs (typ dFOut eFOut w.outs))=t_k (netW w e).outs))))=_ by kernel_rfl) ?_
 delta i_0 i_1 i_2 i_4 wr_ zi n_0 n_140737488355328 n_1 cn_ t_e q_e t_g q_g n_88 t_h q_h t_k q_k t_l t_m q_l q_m i_60
 have a4:=hpre.nl
 simp only [zza,zzb,true_and,and_true,and_self,ne_eq,cI_app,cWrtO_app,cWrtS_app,cWrtO_1,cItemO_1,opr_ex,zcast,frz_nil,nil_map,Option.getD_none,Option.getD_some]
 have e1:IntKind.i64.wrap ((w.net.length:Int)-1)=(w.net.length:Int)-1:=IntWalk.i64_in _ (by omega)
 rw [e1]
 refine ⟨fun h=>?_,fun h=>?_⟩
 ·have h:¬ inR e.at_ 0 ((w.net.length:Int)-1)=true:=by simpa using h
  simp only [netW,if_neg h,and_self]
 ·have h:inR e.at_ 0 ((w.net.length:Int)-1)=true:=by simpa using h
  have hr:0<=e.at_/\e.at_<=(w.net.length:Int)-1:=by simpa [inR] using h
  have hk:e.at_.toNat<w.net.length:=by omega
  simp only [netW,if_pos h]
  refine ⟨fun h2=>⟨e.at_.toNat,by omega,hpre,hk,?_⟩,fun h2=>⟨fun h4=>⟨fun h5=>?_,fun h5=>?_⟩,fun h4=>?_⟩⟩
  ·simp only [if_pos h2,and_self]
  ·refine ⟨by omega,by omega,hk,by omega,?_⟩
   simp only [if_neg h2,if_pos h4,if_pos (show w.net.length<60 by omega),true_and,and_true]
   exact msg1 _ _
  ·simp only [if_neg h2,if_pos h4,if_neg (show ¬ w.net.length<60 by omega),and_self]
  ·have e2:IntKind.i64.wrap (e.at_+1)=e.at_+1:=IntWalk.i64_in _ (by omega)
   have hi:Int.toNat 0=0:=rfl
   rw [e2,hi]
   have e3:(e.at_+1).toNat=e.at_.toNat+1:=by omega
   rw [e3,cMsgErase _ _ hk]
   simp only [if_neg h2,if_neg h4,true_and,and_true]
   refine ⟨by omega,by omega,by omega,by omega,by omega,by omega,by omega,by omega⟩
def spec_l7Net_c:Con Tryz.prog:=conP [.give,.lend] fun (b:Wld×Evt) h=>spec_l7Net_ok (b.1) (b.2) h
theorem spec_l7Place_ok (w:Wld) (e:Evt) (hpre:tame w):FunOK Tryz.prog 179 2 [] [(0,kWldM w),(1,kEvt e)] (·=[(2,kWldM (placeW w e))]):=by
 refine fun_to (E:=⟨tab,ctOf [spec_FroTick_c,spec_FroFall_c,spec_l1In_c,spec_DiskFall_c,spec_l7Send_c,spec_PlcTick_c],67,[],[(0,[2,3,4,9,39,55,66]),(1,[2,3,4,8,9,39,55,66]),(2,[2,4,9,39,55,66]),(3,[2,4,9,39,55,66]),(4,[2,3,4,9,26,39,55,66]),(5,[2,4,9,39,55,66]),(6,[2,3,4,9,39,40,55,66]),(7,[2,4,9,39,55,66]),(8,[2,3,4,9,39,55,56,66]),(9,[2,4,9,39,55,66]),(10,[2,4,9,39,55,66])],[],[(3,[(16,[24])]),(5,[(4,[38])]),(7,[(11,[54])]),(9,[(5,[64]),(2000005,[4])])],[],[]⟩) tab_ok mixed Tryz.func179 rfl Tryz.ntmps179 (rvs:=[.cell 4 123]) Tryz.results179 rfl fun hl=>?_
 refine cast (show (let k_9:Prop:=∀ (k:Nat),True/\True;let k_8:Prop:=q_h w.front.way (placeW w e).front.way;let k_7:Prop:=(wr_ (e.place-i_1)).toNat<w.disks.length;let k_6:Prop:=w.front.disk.safe=(placeW w e).front.disk.safe;let k_5:Prop:=q_e w.front.disk.notes (placeW w e).front.disk.notes;let k_4:Prop:=i_0<=wr_ (e.place-i_1)/\wr_ (e.place-i_1)<zi w.disks.length;let k_3:Prop:=q_g w.net (placeW w e).net/\q_m w.ops (placeW w e).ops/\q_k w.outs (placeW w e).outs;let k_2:Prop:=q_l w.disks (placeW w e).disks/\k_3;let k_1:Prop:=((e.kind==i_5)=true->k_4/\k_7/\(∃ (b:Int×Disk),(e.place=b.1/\q_e (w.disks.getD (wr_ (e.place-i_1)).toNat dDisk).notes b.2.notes/\(w.disks.getD (wr_ (e.place-i_1)).toNat dDisk).safe=b.2.safe)/\(∃ (b_1:Wld×List Msg),((q_e w.front.disk.notes b_1.1.front.disk.notes/\w.front.disk.safe=b_1.1.front.disk.safe/\q_h w.front.way b_1.1.front.way/\q_l w.disks b_1.1.disks/\q_g w.net b_1.1.net/\q_m w.ops b_1.1.ops/\q_k w.outs b_1.1.outs)/\cnRs (frozenRs (typ dMsg eMsg (tickD b.1 b.2)))=t_g b_1.2)/\b_1.1.net.length<=n_1000/\q_e b_1.1.front.disk.notes (placeW w e).front.disk.notes/\b_1.1.front.disk.safe=(placeW w e).front.disk.safe/\q_h b_1.1.front.way (placeW w e).front.way/\q_l b_1.1.disks (placeW w e).disks/\q_g (sendN b_1.1.net b_1.2) (placeW w e).net/\q_m b_1.1.ops (placeW w e).ops/\q_k b_1.1.outs (placeW w e).outs)))/\((e.kind==i_5)=false->((e.place==i_0)=true->∃ (b:Front×Int),((q_e w.front.disk.notes b.1.disk.notes/\w.front.disk.safe=b.1.disk.safe/\cnRs (frozenRs (typ dFTx eFTxS w.front.way))=t_h b.1.way)/\e.keep=b.2)/\(((∀ (k:Nat),True/\True/\k_9/\(∀ (k:Nat),True/\True/\k_9/\True)/\True)/\True/\(∀ (k:Nat),True/\True/\True/\True/\True/\True/\True/\True/\True/\k_9/\k_9/\True)/\True)/\True)/\cnRs (frozenRs (typ dNote eNoteO (fallF b.1 b.2).disk.notes))=t_e (placeW w e).front.disk.notes/\(fallF b.1 b.2).disk.safe=(placeW w e).front.disk.safe/\cnRs (frozenRs (typ dFTx eFTxO (fallF b.1 b.2).way))=t_h (placeW w e).front.way/\k_2)/\((e.place==i_0)=false->k_4/\k_7/\(∃ (b:Disk×Int),((q_e (w.disks.getD (wr_ (e.place-i_1)).toNat dDisk).notes b.1.notes/\(w.disks.getD (wr_ (e.place-i_1)).toNat dDisk).safe=b.1.safe)/\e.keep=b.2)/\k_4/\k_7/\k_5/\k_6/\k_8/\cnRs { n:=w.disks.length,f:=fun (i:Nat)=>if i=(wr_ (e.place-i_1)).toNat then setAt (eDiskS (w.disks.getD (wr_ (e.place-i_1)).toNat dDisk)) n_0 (List.map cvOf [SC.c (CV.sh n_72 (frozenRs (typ dNote eNoteO (fallD b.1 b.2).notes))),SC.c (cn_ (fallD b.1 b.2).safe)]) else eDiskS (w.disks.getD i dDisk) }=t_l (placeW w e).disks/\k_3)));∃ (b:Int×Int×Int),(e.place=b.1/\i_0=b.2.1/\i_3=b.2.2)/\((!inR b.1 b.2.1 b.2.2)=true->k_5/\k_6/\k_8/\k_2)/\((!inR b.1 b.2.1 b.2.2)=false->((e.kind==i_5)=true->((e.place==i_0)=true->∃ (b:Front),(q_e w.front.disk.notes b.disk.notes/\w.front.disk.safe=b.disk.safe/\cnRs (frozenRs (typ dFTx eFTxS w.front.way))=t_h b.way)/\(((∀ (k:Nat),True/\True/\True/\True/\True/\True/\True/\True/\True/\True/\True/\True)/\True)/\True)/\(∃ (b_1:Wld×List Msg),((q_e w.front.disk.notes b_1.1.front.disk.notes/\w.front.disk.safe=b_1.1.front.disk.safe/\q_h w.front.way b_1.1.front.way/\q_l w.disks b_1.1.disks/\q_g w.net b_1.1.net/\q_m w.ops b_1.1.ops/\q_k w.outs b_1.1.outs)/\cnRs (frozenRs (typ dMsg eMsg (tickF b)))=t_g b_1.2)/\b_1.1.net.length<=n_1000/\q_e b_1.1.front.disk.notes (placeW w e).front.disk.notes/\b_1.1.front.disk.safe=(placeW w e).front.disk.safe/\q_h b_1.1.front.way (placeW w e).front.way/\q_l b_1.1.disks (placeW w e).disks/\q_g (sendN b_1.1.net b_1.2) (placeW w e).net/\q_m b_1.1.ops (placeW w e).ops/\q_k b_1.1.outs (placeW w e).outs))/\((e.place==i_0)=false->k_1))/\((e.kind==i_5)=false->k_1)))=_ by kernel_rfl) ?_
 delta i_0 i_1 i_5 i_3 wr_ zi n_0 n_1000 cn_ t_e q_e t_g q_g t_h q_h t_k q_k t_l t_m q_l q_m n_72
 have a4:=hpre.nl
 have a6:=hpre.d3
 simp only [zza,zzb,true_and,and_true,and_self,ne_eq,cI_app,cWrtO_app,cWrtS_app,cWrtO_1,cItemO_1,opr_ex,zcast,frz_nil,nil_map,Option.getD_none,Option.getD_some]
 refine ⟨fun h=>?_,fun h=>?_⟩
 ·have h:¬ inR e.place 0 3=true:=by simpa using h
  simp only [placeW,if_neg h,and_self]
 ·have h:inR e.place 0 3=true:=by simpa using h
  have hr:0<=e.place/\e.place<=3:=by simpa [inR] using h
  simp only [placeW,if_pos h]
  have hw:e.place≠0->IntKind.i64.wrap (e.place-1)=e.place-1:=fun _=>IntWalk.i64_in _ (by omega)
  have hk:e.place≠0->(e.place-1).toNat<w.disks.length:=fun _=>by omega
  refine ⟨fun h5=>⟨fun h0=>?_,fun h0=>⟨fun _=>?_,fun h5'=>absurd h5 h5'⟩⟩,fun h5=>⟨fun h5'=>absurd h5' h5,fun _=>⟨fun h0=>?_,fun h0=>?_⟩⟩⟩
  ·refine ⟨by omega,?_⟩
   simp only [if_pos (And.intro h5 h0),and_self]
  ·rw [hw h0]
   refine ⟨by omega,by omega,hk h0,by omega,?_⟩
   simp only [if_neg (show ¬ (e.kind=5/\e.place=0) from fun h=>h0 h.2),if_pos h5,and_self]
  ·simp only [if_neg (show ¬ (e.kind=5/\e.place=0) from fun h=>h5 h.1),if_neg h5,if_pos h0,and_self]
  ·simp only [hw h0,if_neg (show ¬ (e.kind=5/\e.place=0) from fun h=>h5 h.1),if_neg h5,if_neg h0,true_and,and_true]
   exact ⟨by omega,by omega,hk h0,by omega,by omega,hk h0,cSetD _ _ (hk h0) _⟩
def spec_l7Place_c:Con Tryz.prog:=conP [.give,.lend] fun (b:Wld×Evt) h=>spec_l7Place_ok (b.1) (b.2) h
end Go.Proofs.AI
namespace Go.Proofs.AI
open Go.RowKit Go.Proofs
set_option linter.unusedVariables false
set_option linter.unusedSimpArgs false
set_option maxRecDepth 100000
theorem ris3_cases {l:List Int} (h:ris3 l):l=[]∨l=[1]∨l=[2]∨l=[3]∨l=[1,2]∨l=[1,3]∨l=[2,3]∨l=[1,2,3]:=by
 have hl:=ris3_len h
 obtain ⟨h1,h2⟩:=h
 match l,h1,h2,hl with
 | [],_,_,_=>simp
 | [a],_,h2,_ =>
  have ha:=h2 a (by simp)
  have:a=1∨a=2∨a=3:=by omega
  rcases this with rfl | rfl | rfl<;>simp
 | [a,b],h1,h2,_ =>
  have ha:=h2 a (by simp)
  have hb:=h2 b (by simp)
  simp at h1
  have:(a=1/\b=2)∨(a=1/\b=3)∨(a=2/\b=3):=by omega
  rcases this with ⟨rfl,rfl⟩ | ⟨rfl,rfl⟩ | ⟨rfl,rfl⟩<;>simp
 | [a,b,c],h1,h2,_ =>
  have ha:=h2 a (by simp)
  have hc:=h2 c (by simp)
  simp at h1
  have:a=1/\b=2/\c=3:=by omega
  obtain ⟨rfl,rfl,rfl⟩:=this
  simp
 | a::b::c::d::r,_,_,hl=>simp at hl
theorem putP_ris {l:List Int} (h:ris3 l) {n:Int} (hn:1<=n/\n<=3):ris3 (putP l n):=by
 have:n=1∨n=2∨n=3:=by omega
 unfold ris3
 rcases ris3_cases h with rfl | rfl | rfl | rfl | rfl | rfl | rfl | rfl<;>rcases this with rfl | rfl | rfl<;>decide
theorem ris3_nil:ris3 []:=⟨List.Pairwise.nil,by simp⟩
theorem sendN_mem {l:List Msg}:∀ {net:List Msg} {m:Msg},m∈sendN net l->m∈net∨m∈l:=by
 induction l with
 | nil=>intro net m h;exact .inl h
 | cons x l ih =>
  intro net m h
  simp only [sendN,List.foldl_cons] at h
  split at h
  ·rcases ih (net:=net++[x]) h with h | h
   ·rcases List.mem_append.1 h with h | h
    ·exact .inl h
    ·simp at h;subst h;exact .inr (by simp)
   ·exact .inr (by simp [h])
  ·rcases ih (net:=net) h with h | h
   ·exact .inl h
   ·exact .inr (by simp [h])
theorem sendF_tame {k tx:Int} {o:Opr} {ps:List Int} (h:∀ p∈ps,1<=p/\p<=3):∀ m∈sendF k tx o ps,tameM m:=by
 intro m hm
 obtain ⟨p,hp,rfl⟩:=List.mem_map.1 hm
 have:=h p hp
 exact ⟨⟨by simp only;omega,by simp only;omega⟩,fun h0=>by simp only at h0;omega⟩
theorem lessP_sub {l s:List Int} {x:Int} (h:x∈lessP l s):x∈l:=(List.mem_filter.1 h).1
theorem places13' (o:Opr):∀ p∈placesL o,1<=p/\p<=3:=by
 simp only [placesL]
 repeat' split
 all_goals simp
theorem tickF_tame (f:Front):∀ m∈tickF f,tameM m:=by
 intro m hm
 simp only [tickF] at hm
 split at hm
 ·obtain ⟨t,_,ht⟩:=List.mem_flatMap.1 hm
  simp only [tickT] at ht
  split at ht
  ·exact sendF_tame (fun p hp=>by have:=lessP_sub hp;simp at this;omega) m ht
  ·exact sendF_tame (fun p hp=>places13' _ p (lessP_sub hp)) m ht
 ·simp at hm
theorem msgF_tame {k p tx:Int} (hp:1<=p/\p<=3):tameM (msgF k p tx):=⟨⟨by simp,by simp⟩,fun _=>hp⟩
theorem tickD_tame {p:Int} {d:Disk}:∀ m∈tickD p d,tameM m:=by
 intro m hm
 simp only [tickD] at hm
 split at hm
 ·rename_i hp
  obtain ⟨x,_,rfl⟩:=List.mem_map.1 hm
  exact msgF_tame (by simpa [inR] using hp)
 ·simp at hm
theorem hearD_tame {p:Int} {d:Disk} {m:Msg}:∀ q∈(hearD p d m).2,tameM q:=by
 intro q hq
 simp only [hearD] at hq
 split at hq
 ·rename_i hh
  simp only [Bool.and_eq_true] at hh
  have hp:1<=p/\p<=3:=by simpa [inR] using hh.1.1.1
  have one:∀ {k tx:Int},q=msgF k p tx->tameM q:=fun h=>h▸msgF_tame hp
  split at hq
  ·simp only [askD] at hq
   repeat' split at hq
   all_goals (simp only [List.mem_singleton] at hq;exact one hq)
  ·simp only [toldD] at hq
   repeat' split at hq
   all_goals first | (simp only [List.mem_singleton] at hq;exact one hq) | (simp at hq)
 ·simp at hq
theorem hearD_ok {p:Int} {d:Disk} {m:Msg}:diskB (hearD p d m).1=true:=by
 simp only [hearD]
 split
 ·rename_i hh
  simp only [Bool.and_eq_true] at hh
  split
  ·exact askD_ok _ _ hh.1.1.2
  ·exact toldD_ok _ _ hh.1.1.2
 ·rfl
structure tameF (f:Front) (n:Nat):Prop where
 fd:diskB f.disk=true
 way:∀ t∈f.way,ris3 t.can/\ris3 t.know
 wl:f.way.length<=30+n
theorem tame.F {w:Wld} (h:tame w):tameF w.front w.ops.length:=⟨h.fd,h.way,h.wl⟩
theorem noF_tame {f:Front} {n:Nat} (h:tameF f n) (k:Nat):tameF (noF f k).1 n/\∀ m∈(noF f k).2.1,tameM m:=by
 refine ⟨⟨h.fd,fun t ht=>h.way t (List.mem_of_mem_eraseIdx ht),?_⟩,sendF_tame (places13' _)⟩
 have:=h.wl
 simp only [noF,goneF,List.length_eraseIdx]
 split<;>omega
theorem setT_tame {f:Front} {n:Nat} (h:tameF f n) {k:Nat} {t:FTx} (ht:ris3 t.can/\ris3 t.know):tameF (setT f k t) n:=by
 refine ⟨h.fd,fun u hu=>?_,by have:=h.wl;simpa [setT] using this⟩
 rcases List.mem_or_eq_of_mem_set hu with hu | rfl
 ·exact h.way u hu
 ·exact ht
theorem hearF_tame {f:Front} {n:Nat} (h:tameF f n) {m:Msg} (hm:1<=m.frm/\m.frm<=3):tameF (hearF f m).1 n/\∀ q∈(hearF f m).2.1,tameM q:=by
 have hT:∀ k,k<f.way.length->ris3 (f.way.getD k dFTx).can/\ris3 (f.way.getD k dFTx).know:=fun k hk=>h.way _ (by rw [getD_lt hk];exact List.getElem_mem hk)
 have nil:∀ q∈([]:List Msg),tameM q:=fun q hq=>by simp at hq
 simp only [hearF]
 split
 ·rename_i hc
  have hl:=(atF_lt hc.2.1).1
  generalize (atF f.way m.tx).toNat=k at *
  obtain ⟨t1,t2⟩:=hT k hl
  refine ⟨?_,nil⟩
  simp only [knowF]
  have hk:ris3 (knowT (f.way.getD k dFTx) m.frm).can/\ris3 (knowT (f.way.getD k dFTx) m.frm).know:=⟨t1,putP_ris t2 hm⟩
  split
  ·exact setT_tame h hk
  ·split
   ·refine ⟨addD_ok _ _ _ h.fd,fun t ht=>h.way t (List.mem_of_mem_eraseIdx ht),?_⟩
    have:=h.wl
    simp only [List.length_eraseIdx]
    split<;>omega
   ·exact setT_tame h hk
 ·split
  ·rename_i hc
   have hl:=(atF_lt hc.2.1).1
   generalize (atF f.way m.tx).toNat=k at *
   obtain ⟨t1,t2⟩:=hT k hl
   have hk:ris3 (canT (f.way.getD k dFTx) m.frm).can/\ris3 (canT (f.way.getD k dFTx) m.frm).know:=⟨putP_ris t1 hm,t2⟩
   simp only [canF]
   split
   ·exact ⟨setT_tame h hk,nil⟩
   ·split
    ·have:=setT_tame h (k:=k) (t:=yesT (canT (f.way.getD k dFTx) m.frm)) hk
     exact ⟨⟨addD_ok _ _ _ h.fd,this.way,this.wl⟩,sendF_tame (by simp)⟩
    ·exact noF_tame (setT_tame h hk) k
  ·split
   ·exact noF_tame h _
   ·split
    ·refine ⟨h,?_⟩
     have hf:∀ p∈[m.frm],1<=p/\p<=3:=fun p hp=>by simp at hp;subst hp;exact hm
     simp only [whatF]
     split
     ·exact sendF_tame hf
     ·split
      ·exact nil
      ·exact sendF_tame hf
    ·exact ⟨h,nil⟩
theorem giveF_tame {f:Front} {n:Nat} (h:tameF f n) (tx:Int):tameF (giveF f tx).1 n/\∀ q∈(giveF f tx).2.1,tameM q:=by
 have nil:∀ q∈([]:List Msg),tameM q:=fun q hq=>by simp at hq
 simp only [giveF]
 split
 ·split
  ·exact ⟨h,nil⟩
  ·exact noF_tame h _
 ·exact ⟨⟨rfl,by simp,by simp⟩,nil⟩
theorem fallF_tame {f:Front} {n:Nat} (h:tameF f n) (keep:Int):tameF (fallF f keep) n:=by
 simp only [fallF]
 split
 ·refine ⟨fallD_ok h.fd keep,fun t ht=>?_,?_⟩
  ·obtain ⟨i,_,_,rfl⟩:=fallW_mem ht
   exact ⟨ris3_nil,ris3_nil⟩
  ·have:=fallW_len (fallD f.disk keep).notes 30
   simp only;omega
 ·exact ⟨rfl,by simp,by simp⟩
theorem send_tame {w:Wld} (h:tame w) {l:List Msg} (hl:∀ m∈l,tameM m) {f:Front} {n:List Msg} (hf:tameF f w.ops.length) (hn:∀ m∈n,m∈w.net) (hnl:n.length<=60) {o:List FOut} (ho:o.length<=30):tame ⟨f,w.disks,sendN n l,w.ops,o⟩:=by
 refine ⟨hf.fd,hf.way,hf.wl,h.d3,h.dd,?_,fun m hm=>?_,h.ol,ho⟩
 ·have:=sendN_len l n;simp only;omega
 ·rcases sendN_mem hm with hm | hm
  ·exact h.nm m (hn m hm)
  ·exact hl m hm
theorem disk_tame {w:Wld} (h:tame w) {l:List Msg} (hl:∀ m∈l,tameM m) {n:List Msg} (hn:∀ m∈n,m∈w.net) (hnl:n.length<=60) {k:Nat} {d:Disk} (hd:diskB d=true):tame ⟨w.front,w.disks.set k d,sendN n l,w.ops,w.outs⟩:=by
 refine ⟨h.fd,h.way,h.wl,by simpa using h.d3,fun x hx=>?_,?_,fun m hm=>?_,h.ol,h.ul⟩
 ·rcases List.mem_or_eq_of_mem_set hx with hx | rfl
  ·exact h.dd x hx
  ·exact hd
 ·have:=sendN_len l n;simp only;omega
 ·rcases sendN_mem hm with hm | hm
  ·exact h.nm m (hn m hm)
  ·exact hl m hm
theorem doW_tame {w:Wld} (h:tame w) (o:Opr):tame (doW w o):=by
 simp only [doW]
 split
 ·rename_i hc
  split
  ·rename_i hb
   have hf:tameF (beginF w.front w.ops.length o).1 (w.ops.length+1)/\∀ m∈(beginF w.front w.ops.length o).2.1,tameM m:=by
    have nil:∀ q∈([]:List Msg),tameM q:=fun q hq=>by simp at hq
    have:=h.wl
    simp only [beginF]
    split
    ·exact ⟨⟨h.fd,h.way,by simp only;omega⟩,nil⟩
    ·refine ⟨⟨h.fd,fun t ht=>?_,by simp only [List.length_append,List.length_singleton];omega⟩,sendF_tame (places13' _)⟩
     rcases List.mem_append.1 ht with ht | ht
     ·exact h.way t ht
     ·simp at ht;subst ht;exact ⟨ris3_nil,ris3_nil⟩
   refine ⟨hf.1.fd,hf.1.way,by simpa using hf.1.wl,h.d3,h.dd,?_,fun m hm=>?_,by simp only [List.length_append,List.length_singleton];omega,h.ul⟩
   ·have:=sendN_len (beginF w.front w.ops.length o).2.1 w.net;have:=h.nl;simp only;omega
   ·rcases sendN_mem hm with hm | hm
    ·exact h.nm m hm
    ·exact hf.2 m hm
  ·exact h
 ·exact h
theorem heardW_tame {w:Wld} (h:tame w) {k:Nat} (hk:k<w.net.length):tame (heardW w k):=by
 have hm:w.net.getD k dMsg∈w.net:=by rw [getD_lt hk];exact List.getElem_mem hk
 have ht:=h.nm _ hm
 have hn:(w.net.eraseIdx k).length<=60:=by
  have:=h.nl
  simp only [List.length_eraseIdx]
  split<;>omega
 simp only [heardW]
 split
 ·rename_i h0
  obtain ⟨a,b⟩:=hearF_tame h.F (ht.2 h0)
  refine send_tame h b a (fun m hm=>List.mem_of_mem_eraseIdx hm) hn ?_
  have:=outsN_len (hearF w.front (w.net.getD k dMsg)).2.2 w.outs
  have:=h.ul
  omega
 ·exact disk_tame h hearD_tame (fun m hm=>List.mem_of_mem_eraseIdx hm) hn hearD_ok
theorem netW_tame {w:Wld} (h:tame w) (e:Evt):tame (netW w e):=by
 simp only [netW]
 split
 ·rename_i hr
  have hr:0<=e.at_/\e.at_<=(w.net.length:Int)-1:=by simpa [inR] using hr
  have hk:e.at_.toNat<w.net.length:=by omega
  split
  ·exact heardW_tame h hk
  ·split
   ·split
    ·refine ⟨h.fd,h.way,h.wl,h.d3,h.dd,by simp only [List.length_append,List.length_singleton];omega,fun m hm=>?_,h.ol,h.ul⟩
     rcases List.mem_append.1 hm with hm | hm
     ·exact h.nm m hm
     ·simp only [List.mem_singleton] at hm;subst hm
      exact h.nm _ (by rw [getD_lt hk];exact List.getElem_mem hk)
    ·exact h
   ·refine ⟨h.fd,h.way,h.wl,h.d3,h.dd,?_,fun m hm=>h.nm m (List.mem_of_mem_eraseIdx hm),h.ol,h.ul⟩
    have:=h.nl
    simp only [List.length_eraseIdx]
    split<;>omega
 ·exact h
theorem placeW_tame {w:Wld} (h:tame w) (e:Evt):tame (placeW w e):=by
 simp only [placeW]
 split
 ·rename_i hr
  have hr:0<=e.place/\e.place<=3:=by simpa [inR] using hr
  split
  ·exact send_tame h (tickF_tame _) h.F (fun m hm=>hm) h.nl h.ul
  ·split
   ·exact send_tame h tickD_tame h.F (fun m hm=>hm) h.nl h.ul
   ·split
    ·have:=fallF_tame h.F e.keep
     exact ⟨this.fd,this.way,this.wl,h.d3,h.dd,h.nl,h.nm,h.ol,h.ul⟩
    ·rename_i h0
     have hk:(e.place-1).toNat<w.disks.length:=by have:=h.d3;omega
     have hd:=h.dd (w.disks.getD (e.place-1).toNat dDisk) (by rw [getD_lt hk];exact List.getElem_mem hk)
     refine ⟨h.fd,h.way,h.wl,by simpa using h.d3,fun x hx=>?_,h.nl,h.nm,h.ol,h.ul⟩
     rcases List.mem_or_eq_of_mem_set hx with hx | rfl
     ·exact h.dd x hx
     ·exact fallD_ok hd _
 ·exact h
theorem stepE_tame {w:Wld} (h:tame w) (e:Evt):tame (stepE w e):=by
 simp only [stepE]
 split
 ·exact doW_tame h _
 ·split
  ·exact netW_tame h e
  ·split
   ·exact placeW_tame h e
   ·split
    ·obtain ⟨a,b⟩:=giveF_tame h.F e.at_
     refine send_tame h b a (fun m hm=>hm) h.nl ?_
     have:=outsN_len (giveF w.front e.at_).2.2 w.outs
     have:=h.ul
     omega
    ·exact h
theorem newW_tame:tame newW:=by
 refine ⟨rfl,by simp [newW],by simp [newW],rfl,fun d hd=>?_,by simp [newW],by simp [newW],by simp [newW],by simp [newW]⟩
 simp [newW] at hd
 rw [hd]<;>rfl
theorem tame_small {w:Wld} (h:tame w):smallW w:=by
 have hw:=h.wl
 have ho:=h.ol
 refine ⟨⟨(diskB_small h.fd).1,by omega,fun t ht=>?_⟩,by have:=h.d3;omega,fun d hd=>(diskB_small (h.dd d hd)).1,by have:=h.nl;omega,by omega,by have:=h.ul;omega⟩
 have:=h.way t ht
 exact ⟨by have:=ris3_len this.1;omega,by have:=ris3_len this.2;omega⟩
theorem spec_l7Do_ok (w:Wld) (o:Opr) (hpre:tame w):FunOK Tryz.prog 177 2 [] [(0,kWldM w),(1,kOp o)] (·=[(2,kWldM (doW w o))]):=by
 by_cases h:noBegin w.front w.ops.length
 ·have e:doW w o=w:=by simp [doW,beginF,if_pos h]
  rw [e]
  exact l7DoNo_ok w o ⟨hpre,h⟩
 ·exact l7DoYes_ok w o ⟨hpre,h⟩
def spec_l7Do_c:Con Tryz.prog:=conP [.give,.lend] fun (b:Wld×Opr) h=>spec_l7Do_ok (b.1) (b.2) h
theorem spec_l7Step_ok (w:Wld) (e:Evt) (hpre:tame w):FunOK Tryz.prog 137 2 [] [(0,kWldM w),(1,kEvt e)] (·=[(2,kWldM (stepE w e))]):=by
 refine fun_to (E:=⟨tab,ctOf [spec_FroGive_c,spec_l7Do_c,spec_l7Net_c,spec_l7Place_c,spec_l7Outs_c,spec_l7Send_c],48,[],[(0,[2,3,4,15,22,28,46,47]),(1,[2,3,4,9,15,22,28,46,47]),(2,[2,3,4,9,10,15,22,28,46,47]),(3,[2,4,15,22,28,46,47]),(4,[2,3,4,9,15,16,22,28,46,47]),(5,[2,3,4,9,15,16,22,28,46,47]),(6,[2,3,4,9,15,16,22,28,46,47]),(7,[2,4,15,22,28,46,47]),(8,[2,3,4,9,15,22,23,28,46,47]),(9,[2,3,4,9,15,22,23,28,46,47]),(10,[2,4,15,22,28,46,47]),(11,[2,3,4,15,22,28,29,46,47]),(12,[2,4,5,6,7,15,22,28,31,36,38,39,46,47]),(13,[2,4,6,7,15,22,28,31,36,38,39,46,47]),(14,[2,4,15,22,28,46,47]),(15,[2,4,15,22,28,46,47])],[],[(12,[(5,[36]),(2000005,[4])]),(14,[(1000001,[]),(1000003,[])])],[],[]⟩) tab_ok mixed Tryz.func137 rfl Tryz.ntmps137 (rvs:=[.cell 4 123]) Tryz.results137 rfl fun hl=>?_
 refine cast (show (let k_3:Prop:=∀ (k:Nat),True/\True;let k_2:Prop:=∃ (b:Wld×Evt),((q_e w.front.disk.notes b.1.front.disk.notes/\w.front.disk.safe=b.1.front.disk.safe/\q_h w.front.way b.1.front.way/\q_l w.disks b.1.disks/\q_g w.net b.1.net/\q_m w.ops b.1.ops/\q_k w.outs b.1.outs)/\e.kind=b.2.kind/\e.op.kind=b.2.op.kind/\e.op.who=b.2.op.who/\e.op.inn=b.2.op.inn/\e.op.code=b.2.op.code/\e.op.sec=b.2.op.sec/\e.op.fam=b.2.op.fam/\e.op.gen=b.2.op.gen/\e.at_=b.2.at_/\e.place=b.2.place/\e.keep=b.2.keep)/\tame b.1/\q_e (netW b.1 b.2).front.disk.notes (stepE w e).front.disk.notes/\(netW b.1 b.2).front.disk.safe=(stepE w e).front.disk.safe/\q_h (netW b.1 b.2).front.way (stepE w e).front.way/\q_l (netW b.1 b.2).disks (stepE w e).disks/\q_g (netW b.1 b.2).net (stepE w e).net/\q_m (netW b.1 b.2).ops (stepE w e).ops/\q_k (netW b.1 b.2).outs (stepE w e).outs;let k_1:Prop:=∃ (b:Wld×Evt),((q_e w.front.disk.notes b.1.front.disk.notes/\w.front.disk.safe=b.1.front.disk.safe/\q_h w.front.way b.1.front.way/\q_l w.disks b.1.disks/\q_g w.net b.1.net/\q_m w.ops b.1.ops/\q_k w.outs b.1.outs)/\e.kind=b.2.kind/\e.op.kind=b.2.op.kind/\e.op.who=b.2.op.who/\e.op.inn=b.2.op.inn/\e.op.code=b.2.op.code/\e.op.sec=b.2.op.sec/\e.op.fam=b.2.op.fam/\e.op.gen=b.2.op.gen/\e.at_=b.2.at_/\e.place=b.2.place/\e.keep=b.2.keep)/\tame b.1/\q_e (placeW b.1 b.2).front.disk.notes (stepE w e).front.disk.notes/\(placeW b.1 b.2).front.disk.safe=(stepE w e).front.disk.safe/\q_h (placeW b.1 b.2).front.way (stepE w e).front.way/\q_l (placeW b.1 b.2).disks (stepE w e).disks/\q_g (placeW b.1 b.2).net (stepE w e).net/\q_m (placeW b.1 b.2).ops (stepE w e).ops/\q_k (placeW b.1 b.2).outs (stepE w e).outs;((e.kind==i_1)=true->∃ (b:Wld×Opr),((q_e w.front.disk.notes b.1.front.disk.notes/\w.front.disk.safe=b.1.front.disk.safe/\q_h w.front.way b.1.front.way/\q_l w.disks b.1.disks/\q_g w.net b.1.net/\q_m w.ops b.1.ops/\q_k w.outs b.1.outs)/\e.op.kind=b.2.kind/\e.op.who=b.2.who/\e.op.inn=b.2.inn/\e.op.code=b.2.code/\e.op.sec=b.2.sec/\e.op.fam=b.2.fam/\e.op.gen=b.2.gen)/\tame b.1/\q_e (doW b.1 b.2).front.disk.notes (stepE w e).front.disk.notes/\(doW b.1 b.2).front.disk.safe=(stepE w e).front.disk.safe/\q_h (doW b.1 b.2).front.way (stepE w e).front.way/\q_l (doW b.1 b.2).disks (stepE w e).disks/\q_g (doW b.1 b.2).net (stepE w e).net/\q_m (doW b.1 b.2).ops (stepE w e).ops/\q_k (doW b.1 b.2).outs (stepE w e).outs)/\((e.kind==i_1)=false->((e.kind==i_2)=true->k_2)/\((e.kind==i_2)=false->((e.kind==i_3)=true->k_2)/\((e.kind==i_3)=false->((e.kind==i_4)=true->k_2)/\((e.kind==i_4)=false->((e.kind==i_5)=true->k_1)/\((e.kind==i_5)=false->((e.kind==i_7)=true->k_1)/\((e.kind==i_7)=false->((e.kind==i_6)=true->∃ (b:Front×Int),((q_e w.front.disk.notes b.1.disk.notes/\w.front.disk.safe=b.1.disk.safe/\cnRs (frozenRs (typ dFTx eFTxS w.front.way))=t_h b.1.way)/\e.at_=b.2)/\(((∀ (k:Nat),True/\True/\k_3/\(∀ (k:Nat),True/\True/\k_3/\True)/\True)/\True/\(∀ (k:Nat),True/\True/\True/\True/\True/\True/\True/\True/\True/\k_3/\k_3/\True)/\(∀ (k:Nat),True/\True/\True/\True/\True/\True/\True/\True/\True/\True/\True/\True)/\(∀ (k:Nat),True/\True/\True)/\True)/\True)/\(∃ (b_1:Wld×List Msg),((cnRs (frozenRs (typ dNote eNoteO (giveF b.1 b.2).1.disk.notes))=t_e b_1.1.front.disk.notes/\(giveF b.1 b.2).1.disk.safe=b_1.1.front.disk.safe/\cnRs (frozenRs (typ dFTx eFTxO (giveF b.1 b.2).1.way))=t_h b_1.1.front.way/\q_l w.disks b_1.1.disks/\q_g w.net b_1.1.net/\q_m w.ops b_1.1.ops/\q_k w.outs b_1.1.outs)/\cnRs (frozenRs (typ dMsg eMsg (giveF b.1 b.2).2.1))=t_g b_1.2)/\b_1.1.net.length<=n_1000/\(∃ (b_2:Wld×List FOut),((q_e b_1.1.front.disk.notes b_2.1.front.disk.notes/\b_1.1.front.disk.safe=b_2.1.front.disk.safe/\q_h b_1.1.front.way b_2.1.front.way/\q_l b_1.1.disks b_2.1.disks/\q_g (sendN b_1.1.net b_1.2) b_2.1.net/\q_m b_1.1.ops b_2.1.ops/\q_k b_1.1.outs b_2.1.outs)/\cnRs (frozenRs (typ dFOut eFOut (giveF b.1 b.2).2.2))=t_k b_2.2)/\b_2.1.outs.length<=n_1000/\q_e b_2.1.front.disk.notes (stepE w e).front.disk.notes/\b_2.1.front.disk.safe=(stepE w e).front.disk.safe/\q_h b_2.1.front.way (stepE w e).front.way/\q_l b_2.1.disks (stepE w e).disks/\q_g b_2.1.net (stepE w e).net/\q_m b_2.1.ops (stepE w e).ops/\q_k (outsN b_2.1.outs b_2.2) (stepE w e).outs)))/\((e.kind==i_6)=false->q_e w.front.disk.notes (stepE w e).front.disk.notes/\w.front.disk.safe=(stepE w e).front.disk.safe/\q_h w.front.way (stepE w e).front.way/\q_l w.disks (stepE w e).disks/\q_g w.net (stepE w e).net/\q_m w.ops (stepE w e).ops/\q_k w.outs (stepE w e).outs))))))))=_ by kernel_rfl) ?_
 delta i_1 i_5 i_2 i_3 i_4 n_1000 i_7 i_6 t_e q_e t_g q_g t_h q_h t_k q_k t_l t_m q_l q_m
 have a4:=hpre.nl
 have a5:=hpre.ul
 simp only [zza,zzb,true_and,and_true,and_self,ne_eq,cI_app,cWrtO_app,cWrtS_app,cWrtO_1,cItemO_1,opr_ex,zcast,frz_nil,nil_map,Option.getD_none,Option.getD_some]
 refine ⟨fun h=>?_,fun h1=>⟨fun h=>?_,fun h2=>⟨fun h=>?_,fun h3=>⟨fun h=>?_,fun h4=>⟨fun h=>?_,fun h5=>⟨fun h=>?_,fun h7=>⟨fun h=>?_,fun h6=>?_⟩⟩⟩⟩⟩⟩⟩
 all_goals simp only [stepE,if_true,if_false,false_or,or_false,true_or,or_true,and_self,and_true,hpre,true_and, *,show ¬ (2:Int)=1 by omega,show ¬ (3:Int)=1 by omega,show ¬ (3:Int)=2 by omega,show ¬ (4:Int)=1 by omega,show ¬ (4:Int)=2 by omega,show ¬ (4:Int)=3 by omega,show ¬ (5:Int)=1 by omega,show ¬ (5:Int)=2 by omega,show ¬ (5:Int)=3 by omega,show ¬ (5:Int)=4 by omega,show ¬ (7:Int)=1 by omega,show ¬ (7:Int)=2 by omega,show ¬ (7:Int)=3 by omega,show ¬ (7:Int)=4 by omega,show ¬ (7:Int)=5 by omega,show ¬ (6:Int)=1 by omega,show ¬ (6:Int)=2 by omega,show ¬ (6:Int)=3 by omega,show ¬ (6:Int)=4 by omega,show ¬ (6:Int)=5 by omega,show ¬ (6:Int)=7 by omega]
 exact ⟨by omega,by omega⟩
def spec_l7Step_c:Con Tryz.prog:=conP [.give,.lend] fun (b:Wld×Evt) h=>spec_l7Step_ok (b.1) (b.2) h
end Go.Proofs.AI
namespace Go.Proofs.AI
open Go.RowKit Go.Proofs
set_option linter.unusedVariables false
set_option linter.unusedSimpArgs false
set_option maxRecDepth 100000
abbrev noteK (l:List Int) (p:Nat):Int:=[1,1,2,3,4].getD (pickB l p 5).toNat 0
def note0 (l:List Int) (p:Nat):Note×Nat :=
 if noteK l p=1 then (let w:=wrtsD l (p+2) 0
  if pickB l w.2 2=0 then (⟨1,pickB l (p+1) 5,w.1.map Wrt.key++[(keyD l (w.2+1) 0).1],w.1⟩,(keyD l (w.2+1) 0).2) else (⟨1,pickB l (p+1) 5,w.1.map Wrt.key,w.1⟩,w.2+1))
 else (⟨noteK l p,pickB l (p+1) 5,[],[]⟩,p+2)
def noteBent (l:List Int) (p:Nat) (x:Note):Note×Nat :=
 let k:=pickB l p 5
 if k=0 then (⟨[0,5].getD (pickB l (p+1) 2).toNat 0,x.tx,x.locks,x.writes⟩,p+2)
 else if k=1 then (⟨x.kind,[-1,30].getD (pickB l (p+1) 2).toNat 0,x.locks,x.writes⟩,p+2)
 else if k=2 then (⟨x.kind,x.tx,x.locks++[⟨#[]⟩],x.writes⟩,p+1)
 else if k=3 then (⟨x.kind,x.tx,x.locks,x.writes++[⟨⟨#[122,49]⟩,false,[1]⟩]⟩,p+1)
 else (⟨x.kind,x.tx,x.locks,x.writes++[(wrtD l (p+1) 1).1]⟩,(wrtD l (p+1) 1).2)
def noteD (l:List Int) (p:Nat) (n:Int):Note×Nat :=
 let a:=note0 l p
 let q:=oddB l a.2 n
 if q.1=true then noteBent l q.2 a.1 else (a.1,q.2)
def evtD (l:List Int) (p nl ol:Nat):Evt×Nat :=
 let a:=pickB l p 16
 let h:=fun q:Nat=>((⟨2,dOpr,[0,pickB l q (nl+1)].getD (pickB l (q+1) 2).toNat 0,0,0⟩:Evt),q+2)
 if a=0∨a=1∨a=2 then (⟨1,(opB l (p+1) 0).1,0,0,0⟩,(opB l (p+1) 0).2)
 else if a=3 then (⟨[3,4].getD (pickB l (p+1) 2).toNat 0,dOpr,pickB l (p+2) (nl+1),0,0⟩,p+3)
 else if a=4 then (⟨5,dOpr,0,pickB l (p+1) 4,0⟩,p+2)
 else if a=5 then (if pickB l (p+1) 3=0 then (⟨6,dOpr,pickB l (p+2) (ol+1),0,0⟩,p+3)
  else if pickB l (p+2) 2=0 then (⟨7,dOpr,0,pickB l (p+3) 4,pickB l (p+4) 3⟩,p+5)
  else h (p+3))
 else h (p+1)
theorem note0_le {l:List Int} {p:Nat} (h:rdB l p 90):(note0 l p).2<=p+89/\(note0 l p).1.locks.length<=7/\(note0 l p).1.writes.length<=6:=by
 have hw:=wrts_le (l:=l) (p:=p+2) 0 (rdB_le h (by omega))
 have hk:=key_le l ((wrtsD l (p+2) 0).2+1) 0
 simp only [note0]
 repeat' split
 all_goals simp<;>omega
theorem noteD_eq (l:List Int) (p:Nat) (n:Int):noteD l p n=if (oddB l (note0 l p).2 n).1=true then noteBent l (oddB l (note0 l p).2 n).2 (note0 l p).1 else ((note0 l p).1,(oddB l (note0 l p).2 n).2):=rfl
theorem noteD_le {l:List Int} {p:Nat} (n:Int) (h:rdB l p 110):(noteD l p n).2<=p+110/\(noteD l p n).1.locks.length<=8/\(noteD l p n).1.writes.length<=7:=by
 obtain ⟨n1,n2,n3⟩:=note0_le (l:=l) (p:=p) (rdB_le h (by omega))
 have ho:=odd_le l (note0 l p).2 n
 have hw:=wrt_le (l:=l) (p:=(oddB l (note0 l p).2 n).2+1) 1 (rdB_le h (by omega))
 rw [noteD_eq]
 split
 ·simp only [noteBent]
  repeat' split
  all_goals simp<;>omega
 ·simp only;omega
theorem spec_l20Note_ok (l:List Int) (p:Nat) (n:Int) (hpre:rdB l p 120/\n<1000000):FunOK Tryz.prog 140 2 [0] [(0,kRd l p),(1,kI n)] (·=[(2,kNoteO (noteD l p n).1),(0,kRd l (noteD l p n).2)]):=by
 refine fun_to (E:=⟨tab,ctOf [spec_rd_pick_c,spec_rd_odd_c,spec_l20Writes_c,spec_l20Key_c,spec_l20Write_c],94,[0],[(0,[0,1,4,5,93]),(1,[0,1,4,5,93]),(2,[0,1,4,5,17,93]),(3,[0,1,4,5,93]),(4,[0,1,4,5,6,93]),(5,[0,1,4,5,6,25,93]),(6,[0,1,4,5,6,93]),(7,[0,1,4,5,6,93]),(8,[0,1,4,5,41,93]),(9,[0,1,4,5,93]),(10,[0,4,5,51,93]),(11,[0,4,5,53,93]),(12,[0,4,5,93]),(13,[0,4,5,53,61,93]),(14,[0,4,5,93]),(15,[0,4,5,53,69,93]),(16,[0,4,5,93]),(17,[0,4,5,53,77,93]),(18,[0,4,5,93]),(19,[0,4,5,84,93]),(20,[0,4,5,93]),(21,[0,4,5,93])],[(0,⟨List Int×Nat×Int×Int×List ByteArray×List Wrt×Nat,fun x=>[(0,⟨.box,[.c (sU (x.1)),.c (.n .i64 (x.2.1:Int))],[]⟩),(1,(k1 (.n .i64 n))),(4,⟨.box,[.c (.n .i64 ((0:Int))),.c (.n .i64 ((0:Int))),.c (.ow 9 nilR),.c (.ow 94 nilR)],[]⟩),(5,⟨.box,[.c (.n .i64 (x.2.2.1)),.c (.n .i64 (x.2.2.2.1)),.c (oS (x.2.2.2.2.1)),.c (oWrts (x.2.2.2.2.2.1))],[]⟩),(6,(k1 (.n .i64 (x.2.2.2.2.2.2:Int))))]⟩)],[],[(30002,⟨List Int×Nat×Int×Int×List ByteArray×List Wrt,fun x=>[(0,⟨.box,[.c (sU (x.1)),.c (.n .i64 (x.2.1:Int))],[]⟩),(1,(k1 (.n .i64 n))),(4,⟨.box,[.c (.n .i64 ((0:Int))),.c (.n .i64 ((0:Int))),.c (.ow 9 nilR),.c (.ow 94 nilR)],[]⟩),(5,⟨.box,[.c (.n .i64 (x.2.2.1)),.c (.n .i64 (x.2.2.2.1)),.c (oS (x.2.2.2.2.1)),.c (oWrts (x.2.2.2.2.2))],[]⟩)]⟩)],[]⟩) tab_ok mixed Tryz.func140 rfl Tryz.ntmps140 (rvs:=[.cell 4 72]) Tryz.results140 rfl fun hl=>?_
 refine cast (show (let k_1:Prop:=i_0=i_0/\i_0=i_0/\cnRs nilR=cnRs nilR/\cnRs nilR=cnRs nilR;∃ (b:y_6),((q_U l b.1/\zi p=zi b.2.1)/\i_5=b.2.2)/\rdB b.1 b.2.1 n_1/\(i_0<=pickB b.1 b.2.1 b.2.2/\pickB b.1 b.2.1 b.2.2<zi n_5)/\(pickB b.1 b.2.1 b.2.2).toNat<n_5/\(∃ (b_1:y_6),((q_U b.1 b_1.1/\(zi (b.2.1+n_1))=zi b_1.2.1)/\i_5=b_1.2.2)/\rdB b_1.1 b_1.2.1 n_1/\(∃ (post:y_25->Prop),((([i_1,i_1,i_2,i_3,i_4].getD (pickB b.1 b.2.1 b.2.2).toNat i_0==i_1)=true->∃ (b_2:y_6),((q_U b_1.1 b_2.1/\(zi (b_1.2.1+n_1))=zi b_2.2.1)/\i_0=b_2.2.2)/\(rdB b_2.1 b_2.2.1 n_80/\b_2.2.2<i_1000000)/\(∃ (pre:y_24->Prop),∃ (μ:y_24->Nat),∃ (x0:y_24),((q_U b_2.1 x0.1/\(zi (wrtsD b_2.1 b_2.2.1 b_2.2.2).2)=zi x0.2.1)/\n=n/\k_1/\([i_1,i_1,i_2,i_3,i_4].getD (pickB b.1 b.2.1 b.2.2).toNat i_0=x0.2.2.1/\pickB b_1.1 b_1.2.1 b_1.2.2=x0.2.2.2.1/\cnRs nilR=t_S x0.2.2.2.2.1/\q_d (wrtsD b_2.1 b_2.2.1 b_2.2.2).1 x0.2.2.2.2.2.1)/\i_0=zi x0.2.2.2.2.2.2)/\pre x0/\(∀ (x:y_24),let k_2:Prop:=(x.2.2.2.2.1.length+n_1)*n_16<=n_140737488355328;pre x->(decide (zi x.2.2.2.2.2.2<zi x.2.2.2.2.2.1.length)=true->(i_0<=zi x.2.2.2.2.2.2/\zi x.2.2.2.2.2.2<zi x.2.2.2.2.2.1.length)/\(zi x.2.2.2.2.2.2).toNat<x.2.2.2.2.2.1.length/\k_2/\(∃ (y:y_24),((q_U x.1 y.1/\zi x.2.1=zi y.2.1)/\n=n/\k_1/\(x.2.2.1=y.2.2.1/\x.2.2.2.1=y.2.2.2.1/\cnRs (appR (typ ByteArray.empty eS x.2.2.2.2.1) (typ ByteArray.empty (fun (y:ByteArray)=>[CV.s y]) [(g_Wrt x.2.2.2.2.2.1 x.2.2.2.2.2.2).key]))=t_S y.2.2.2.2.1/\q_d x.2.2.2.2.2.1 y.2.2.2.2.2.1)/\wr_ ((zi x.2.2.2.2.2.2)+i_1)=zi y.2.2.2.2.2.2)/\pre y/\μ y<μ x))/\(decide (zi x.2.2.2.2.2.2<zi x.2.2.2.2.2.1.length)=false->∃ (b:y_6),((q_U x.1 b.1/\zi x.2.1=zi b.2.1)/\i_2=b.2.2)/\rdB b.1 b.2.1 n_1/\((pickB b.1 b.2.1 b.2.2==i_0)=true->∃ (b_3:y_6),((q_U b.1 b_3.1/\(zi (b.2.1+n_1))=zi b_3.2.1)/\i_0=b_3.2.2)/\(rdB b_3.1 b_3.2.1 n_6/\b_3.2.2<i_1000000)/\k_2/\(∃ (x_1:y_25),((q_U b_3.1 x_1.1/\(zi (keyD b_3.1 b_3.2.1 b_3.2.2).2)=zi x_1.2.1)/\n=n/\k_1/\x.2.2.1=x_1.2.2.1/\x.2.2.2.1=x_1.2.2.2.1/\cnRs (appR (typ ByteArray.empty eS x.2.2.2.2.1) (typ ByteArray.empty (fun (y:ByteArray)=>[CV.s y]) [(keyD b_3.1 b_3.2.1 b_3.2.2).1]))=t_S x_1.2.2.2.2.1/\q_d x.2.2.2.2.2.1 x_1.2.2.2.2.2)/\post x_1))/\((pickB b.1 b.2.1 b.2.2==i_0)=false->∃ (x_1:y_25),((q_U b.1 x_1.1/\(zi (b.2.1+n_1))=zi x_1.2.1)/\n=n/\k_1/\x.2.2.1=x_1.2.2.1/\x.2.2.2.1=x_1.2.2.2.1/\q_S x.2.2.2.2.1 x_1.2.2.2.2.1/\q_d x.2.2.2.2.2.1 x_1.2.2.2.2.2)/\post x_1)))))/\(([i_1,i_1,i_2,i_3,i_4].getD (pickB b.1 b.2.1 b.2.2).toNat i_0==i_1)=false->∃ (x:y_25),((q_U b_1.1 x.1/\(zi (b_1.2.1+n_1))=zi x.2.1)/\n=n/\k_1/\[i_1,i_1,i_2,i_3,i_4].getD (pickB b.1 b.2.1 b.2.2).toNat i_0=x.2.2.1/\pickB b_1.1 b_1.2.1 b_1.2.2=x.2.2.2.1/\cnRs nilR=t_S x.2.2.2.2.1/\cnRs nilR=t_d x.2.2.2.2.2)/\post x))/\(∀ (x:y_25),let k_9:Prop:=x.2.2.1=(noteD l p n).1.kind;let k_8:Prop:=x.2.2.2.1=(noteD l p n).1.tx;let k_7:Prop:=q_S x.2.2.2.2.1 (noteD l p n).1.locks;let k_6:Prop:=q_d x.2.2.2.2.2 (noteD l p n).1.writes;let k_5:Prop:=(x.2.2.2.2.2.length+n_1)*n_48<=n_140737488355328;let k_4:Prop:=k_7/\k_6;let k_3:Prop:=k_8/\k_4;post x->∃ (b:y_6),((q_U x.1 b.1/\zi x.2.1=zi b.2.1)/\n=b.2.2)/\(rdB b.1 b.2.1 n_1/\b.2.2<i_1000000)/\((oddB b.1 b.2.1 b.2.2).1=true->∃ (b_2:y_6),let k_10:Prop:=q_U b_2.1 l/\(zi (b_2.2.1+n_1))=(zi (noteD l p n).2);((q_U b.1 b_2.1/\(zi (oddB b.1 b.2.1 b.2.2).2)=zi b_2.2.1)/\i_5=b_2.2.2)/\rdB b_2.1 b_2.2.1 n_1/\((pickB b_2.1 b_2.2.1 b_2.2.2==i_0)=true->∃ (b:y_6),((q_U b_2.1 b.1/\(zi (b_2.2.1+n_1))=zi b.2.1)/\i_2=b.2.2)/\rdB b.1 b.2.1 n_1/\(i_0<=pickB b.1 b.2.1 b.2.2/\pickB b.1 b.2.1 b.2.2<zi n_2)/\(pickB b.1 b.2.1 b.2.2).toNat<n_2/\([i_0,i_5].getD (pickB b.1 b.2.1 b.2.2).toNat i_0=(noteD l p n).1.kind/\k_3)/\q_U b.1 l/\(zi (b.2.1+n_1))=(zi (noteD l p n).2))/\((pickB b_2.1 b_2.2.1 b_2.2.2==i_0)=false->((pickB b_2.1 b_2.2.1 b_2.2.2==i_1)=true->∃ (b:y_6),((q_U b_2.1 b.1/\(zi (b_2.2.1+n_1))=zi b.2.1)/\i_2=b.2.2)/\rdB b.1 b.2.1 n_1/\(i_0<=pickB b.1 b.2.1 b.2.2/\pickB b.1 b.2.1 b.2.2<zi n_2)/\(pickB b.1 b.2.1 b.2.2).toNat<n_2/\(k_9/\[(-1:Int),i_30].getD (pickB b.1 b.2.1 b.2.2).toNat i_0=(noteD l p n).1.tx/\k_4)/\q_U b.1 l/\(zi (b.2.1+n_1))=(zi (noteD l p n).2))/\((pickB b_2.1 b_2.2.1 b_2.2.2==i_1)=false->((pickB b_2.1 b_2.2.1 b_2.2.2==i_2)=true->(x.2.2.2.2.1.length+n_1)*n_16<=n_140737488355328/\(k_9/\k_8/\cnRs (appR (typ ByteArray.empty eS x.2.2.2.2.1) (typ ByteArray.empty (fun (y:ByteArray)=>[CV.s y]) [(ByteArray.mk #[])]))=t_S (noteD l p n).1.locks/\k_6)/\k_10)/\((pickB b_2.1 b_2.2.1 b_2.2.2==i_2)=false->((pickB b_2.1 b_2.2.1 b_2.2.2==i_3)=true->k_5/\(k_9/\k_8/\k_7/\cnRs (appR (typ dWrt eWrtO x.2.2.2.2.2) (raw [[CV.s (ByteArray.mk #[(122:UInt8),(49:UInt8)]),CV.b false,CV.ow n_3 (typ i_0 (fun (y:Int)=>[cn_ y]) [i_1])]]))=t_d (noteD l p n).1.writes)/\k_10)/\((pickB b_2.1 b_2.2.1 b_2.2.2==i_3)=false->∃ (b:y_6),((q_U b_2.1 b.1/\(zi (b_2.2.1+n_1))=zi b.2.1)/\i_1=b.2.2)/\(rdB b.1 b.2.1 n_13/\b.2.2<i_1000000)/\k_5/\(k_9/\k_8/\k_7/\cnRs (appR (typ dWrt eWrtO x.2.2.2.2.2) (raw [[CV.s (wrtD b.1 b.2.1 b.2.2).1.key,CV.b (wrtD b.1 b.2.1 b.2.2).1.del,CV.ow n_3 (typ i_0 eI (wrtD b.1 b.2.1 b.2.2).1.val)]]))=t_d (noteD l p n).1.writes)/\q_U b.1 l/\(zi (wrtD b.1 b.2.1 b.2.2).2)=(zi (noteD l p n).2))))))/\((oddB b.1 b.2.1 b.2.2).1=false->(k_9/\k_3)/\q_U b.1 l/\(zi (oddB b.1 b.2.1 b.2.2).2)=(zi (noteD l p n).2))))))=_ by kernel_rfl) ?_
 delta i_0 i_1 i_5 i_2 i_3 i_4 wr_ zi n_140737488355328 n_1 n_3 g_Wrt cn_ t_S t_d n_16 q_S q_d n_2 n_48 i_1000000 t_U q_U y_6 n_5 i_30 n_6 n_13 n_80 y_24 y_25
 have hp:=hpre.1
 have hw:=wrts_le (l:=l) (p:=p+2) 0 (rdB_le hp (by omega))
 obtain ⟨n1,n2,n3⟩:=note0_le (l:=l) (p:=p) (rdB_le hp (by omega))
 have b5:=pick_lt (l:=l) (p:=p) (n:=5) (rdB_le hp (by omega):rdB l p 1) (by omega)
 simp only [zza,zzb,true_and,and_true,and_self,ne_eq,cI_app,cWrtO_app,cWrtS_app,cWrtO_1,cItemO_1,opr_ex,zcast,frz_nil,nil_map,Option.getD_none,Option.getD_some]
 simp only [Nat.add_assoc,Nat.reduceAdd]
 refine ⟨rdB_le hp (by omega),b5.1,b5.2,by omega,rdB_le hp (by omega),fun z=>z=(l,(note0 l p).2,(note0 l p).1.kind,(note0 l p).1.tx,(note0 l p).1.locks,(note0 l p).1.writes),fun hk=>?_,fun hk=>?_,?_⟩
 ·have hk:noteK l p=1:=hk
  refine ⟨rdB_le hp (by omega),by omega,fun x=>x.1=l/\x.2.1=(wrtsD l (p+2) 0).2/\x.2.2.1=noteK l p/\x.2.2.2.1=pickB l (p+1) 5/\x.2.2.2.2.2.1=(wrtsD l (p+2) 0).1/\x.2.2.2.2.2.2<=(wrtsD l (p+2) 0).1.length/\x.2.2.2.2.1=((wrtsD l (p+2) 0).1.take x.2.2.2.2.2.2).map Wrt.key,⟨rfl,rfl,rfl,rfl,rfl,Nat.zero_le _,rfl⟩,fun x=>x.2.2.2.2.2.1.length-x.2.2.2.2.2.2,fun a q k t lo wr b hx=>?_⟩
  obtain ⟨h1,h2,h3,h4,h5,h6,h7⟩:=hx
  simp only at h1 h2 h3 h4 h5 h6 h7
  subst h1 h2 h3 h4 h5
  have hlo:lo.length=b:=by rw [h7];simp;omega
  refine ⟨fun hb=>⟨by omega,hb,by omega,by omega,lo++[((wrtsD a (p+2) 0).1.getD b dWrt).key],by simp,b+1,wrapN (by omega),⟨rfl,rfl,rfl,rfl,rfl,by simp only;omega,?_⟩,by simp only;omega⟩,fun hb=>?_⟩
  ·simp only
   rw [take_succ (d:=dWrt) (by omega),List.map_append,h7]
   rfl
  ·have hb:b=(wrtsD a (p+2) 0).1.length:=by omega
   rw [hb,List.take_length] at h7
   refine ⟨rdB_le hp (by omega),fun h0=>⟨rdB_le hp (by omega),by omega,by omega,lo++[(keyD a ((wrtsD a (p+2) 0).2+1) 0).1],by simp,?_⟩,fun h0=>?_⟩
   ·simp only [note0,if_pos h0,h7,hk,if_true]
   ·simp only [note0,if_neg h0,h7,hk,if_true]
 ·have hk:¬ noteK l p=1:=hk
  simp only [note0,if_neg hk]
 ·intro a q k t lo wr hz
  simp only [Prod.mk.injEq] at hz
  obtain ⟨h1,h2,h3,h4,h5,h6⟩:=hz
  subst h1 h2 h3 h4 h5 h6
  have ho:=odd_le a (note0 a p).2 n
  rw [noteD_eq]
  generalize note0 a p=A at *
  generalize oddB a A.2 n=Q at *
  have b2:=pick_lt (l:=a) (p:=Q.2+1) (n:=2) (rdB_le hp (by omega):rdB a (Q.2+1) 1) (by omega)
  refine ⟨rdB_le hp (by omega),hpre.2,fun hq=>⟨rdB_le hp (by omega),?_⟩,fun hq=>?_⟩
  ·rw [if_pos hq]
   refine ⟨fun h0=>⟨rdB_le hp (by omega),b2.1,b2.2,by omega,?_⟩,fun h0=>⟨fun h1=>⟨rdB_le hp (by omega),b2.1,b2.2,by omega,?_⟩,fun h1=>⟨fun h2=>⟨by omega,?_⟩,fun h2=>⟨fun h3=>⟨by omega,?_⟩,fun h3=>⟨rdB_le hp (by omega),by omega,by omega,?_⟩⟩⟩⟩⟩
   ·simp [noteBent,h0]
   ·simp [noteBent,h1]
   ·simp [noteBent,h2]
   ·simp [noteBent,h3]
   ·simp [noteBent,h0,h1,h2,h3]
  ·rw [hq]
   simp
def spec_l20Note_c:Con Tryz.prog:=conP [.ptr,.lend] fun (b:List Int×Nat×Int) h=>spec_l20Note_ok (b.1) (b.2.1) (b.2.2) h
theorem spec_l20Event_ok (l:List Int) (p:Nat) (nl:Nat) (ol:Nat) (hpre:rdB l p 20/\nl<=1000/\ol<=1000):FunOK Tryz.prog 136 2 [0] [(0,kRd l p),(1,⟨.agg,[.c .any,.c .any,.c .any,.c .any,.c (.ln nl),.c (.ln ol),.c .any],[]⟩)] (·=[(2,kEvt (evtD l p nl ol).1),(0,kRd l (evtD l p nl ol).2)]):=by
 refine fun_to (E:=⟨tab,ctOf [spec_rd_pick_c,spec_l20Op_c],65,[0],[(0,[0,3,4]),(1,[0,3,4,6]),(2,[0,3,4,6,7]),(3,[0,3,4,6,7]),(4,[0,3,4,6,7]),(5,[0,4]),(6,[0,3,4,6,14]),(7,[0,4]),(8,[0,3,4,6,28]),(9,[0,4]),(10,[0,3,4,33]),(11,[0,3,4,37]),(12,[0,4]),(13,[0,3,4,47]),(14,[0,4]),(15,[0,4])],[],[],[],[]⟩) tab_ok mixed Tryz.func136 rfl Tryz.ntmps136 (rvs:=[.cell 4 154]) Tryz.results136 rfl fun hl=>?_
 refine cast (show (let k_11:Prop:=i_0=(evtD l p nl ol).1.at_;let k_10:Prop:=i_1=(evtD l p nl ol).1.kind;let k_9:Prop:=i_0=(evtD l p nl ol).1.op.fam;let k_8:Prop:=i_0=(evtD l p nl ol).1.op.gen;let k_7:Prop:=i_0=(evtD l p nl ol).1.op.inn;let k_6:Prop:=i_0=(evtD l p nl ol).1.op.sec;let k_5:Prop:=i_0=(evtD l p nl ol).1.op.who;let k_4:Prop:=i_0=(evtD l p nl ol).1.op.code;let k_3:Prop:=i_0=(evtD l p nl ol).1.op.kind;let k_2:Prop:=i_0=(evtD l p nl ol).1.place/\i_0=(evtD l p nl ol).1.keep;let k_1:Prop:=k_11/\k_2;∃ (b:y_6),let k_12:Prop:=∃ (b_1:y_6),((q_U b.1 b_1.1/\(zi (b.2.1+n_1))=zi b_1.2.1)/\i_0=b_1.2.2)/\(rdB b_1.1 b_1.2.1 n_8/\b_1.2.2<i_1000000)/\(k_10/\(opB b_1.1 b_1.2.1 b_1.2.2).1.kind=(evtD l p nl ol).1.op.kind/\(opB b_1.1 b_1.2.1 b_1.2.2).1.who=(evtD l p nl ol).1.op.who/\(opB b_1.1 b_1.2.1 b_1.2.2).1.inn=(evtD l p nl ol).1.op.inn/\(opB b_1.1 b_1.2.1 b_1.2.2).1.code=(evtD l p nl ol).1.op.code/\(opB b_1.1 b_1.2.1 b_1.2.2).1.sec=(evtD l p nl ol).1.op.sec/\(opB b_1.1 b_1.2.1 b_1.2.2).1.fam=(evtD l p nl ol).1.op.fam/\(opB b_1.1 b_1.2.1 b_1.2.2).1.gen=(evtD l p nl ol).1.op.gen/\k_1)/\q_U b_1.1 l/\(zi (opB b_1.1 b_1.2.1 b_1.2.2).2)=(zi (evtD l p nl ol).2);((q_U l b.1/\zi p=zi b.2.1)/\i_16=b.2.2)/\rdB b.1 b.2.1 n_1/\((pickB b.1 b.2.1 b.2.2==i_0)=true->k_12)/\((pickB b.1 b.2.1 b.2.2==i_0)=false->((pickB b.1 b.2.1 b.2.2==i_1)=true->k_12)/\((pickB b.1 b.2.1 b.2.2==i_1)=false->((pickB b.1 b.2.1 b.2.2==i_2)=true->k_12)/\((pickB b.1 b.2.1 b.2.2==i_2)=false->((pickB b.1 b.2.1 b.2.2==i_3)=true->∃ (b_1:y_6),((q_U b.1 b_1.1/\(zi (b.2.1+n_1))=zi b_1.2.1)/\i_2=b_1.2.2)/\rdB b_1.1 b_1.2.1 n_1/\(i_0<=pickB b_1.1 b_1.2.1 b_1.2.2/\pickB b_1.1 b_1.2.1 b_1.2.2<zi n_2)/\(pickB b_1.1 b_1.2.1 b_1.2.2).toNat<n_2/\(∃ (b:y_6),((q_U b_1.1 b.1/\(zi (b_1.2.1+n_1))=zi b.2.1)/\wr_ ((zi nl)+i_1)=b.2.2)/\rdB b.1 b.2.1 n_1/\([i_3,i_4].getD (pickB b_1.1 b_1.2.1 b_1.2.2).toNat i_0=(evtD l p nl ol).1.kind/\k_3/\k_5/\k_7/\k_4/\k_6/\k_9/\k_8/\pickB b.1 b.2.1 b.2.2=(evtD l p nl ol).1.at_/\k_2)/\q_U b.1 l/\(zi (b.2.1+n_1))=(zi (evtD l p nl ol).2)))/\((pickB b.1 b.2.1 b.2.2==i_3)=false->((pickB b.1 b.2.1 b.2.2==i_4)=true->∃ (b_1:y_6),((q_U b.1 b_1.1/\(zi (b.2.1+n_1))=zi b_1.2.1)/\i_4=b_1.2.2)/\rdB b_1.1 b_1.2.1 n_1/\(i_5=(evtD l p nl ol).1.kind/\k_3/\k_5/\k_7/\k_4/\k_6/\k_9/\k_8/\k_11/\pickB b_1.1 b_1.2.1 b_1.2.2=(evtD l p nl ol).1.place/\i_0=(evtD l p nl ol).1.keep)/\q_U b_1.1 l/\(zi (b_1.2.1+n_1))=(zi (evtD l p nl ol).2))/\((pickB b.1 b.2.1 b.2.2==i_4)=false->((pickB b.1 b.2.1 b.2.2==i_5)=true->∃ (b_1:y_6),((q_U b.1 b_1.1/\(zi (b.2.1+n_1))=zi b_1.2.1)/\i_3=b_1.2.2)/\rdB b_1.1 b_1.2.1 n_1/\((pickB b_1.1 b_1.2.1 b_1.2.2==i_0)=true->∃ (b:y_6),((q_U b_1.1 b.1/\(zi (b_1.2.1+n_1))=zi b.2.1)/\wr_ ((zi ol)+i_1)=b.2.2)/\rdB b.1 b.2.1 n_1/\(i_6=(evtD l p nl ol).1.kind/\k_3/\k_5/\k_7/\k_4/\k_6/\k_9/\k_8/\pickB b.1 b.2.1 b.2.2=(evtD l p nl ol).1.at_/\k_2)/\q_U b.1 l/\(zi (b.2.1+n_1))=(zi (evtD l p nl ol).2))/\((pickB b_1.1 b_1.2.1 b_1.2.2==i_0)=false->∃ (b:y_6),((q_U b_1.1 b.1/\(zi (b_1.2.1+n_1))=zi b.2.1)/\i_2=b.2.2)/\rdB b.1 b.2.1 n_1/\((pickB b.1 b.2.1 b.2.2==i_0)=true->∃ (b_2:y_6),((q_U b.1 b_2.1/\(zi (b.2.1+n_1))=zi b_2.2.1)/\i_4=b_2.2.2)/\rdB b_2.1 b_2.2.1 n_1/\(∃ (b:y_6),((q_U b_2.1 b.1/\(zi (b_2.2.1+n_1))=zi b.2.1)/\i_3=b.2.2)/\rdB b.1 b.2.1 n_1/\(i_7=(evtD l p nl ol).1.kind/\k_3/\k_5/\k_7/\k_4/\k_6/\k_9/\k_8/\k_11/\pickB b_2.1 b_2.2.1 b_2.2.2=(evtD l p nl ol).1.place/\pickB b.1 b.2.1 b.2.2=(evtD l p nl ol).1.keep)/\q_U b.1 l/\(zi (b.2.1+n_1))=(zi (evtD l p nl ol).2)))/\((pickB b.1 b.2.1 b.2.2==i_0)=false->∃ (b_2:y_6),((q_U b.1 b_2.1/\(zi (b.2.1+n_1))=zi b_2.2.1)/\wr_ ((zi nl)+i_1)=b_2.2.2)/\rdB b_2.1 b_2.2.1 n_1/\(∃ (b:y_6),((q_U b_2.1 b.1/\(zi (b_2.2.1+n_1))=zi b.2.1)/\i_2=b.2.2)/\rdB b.1 b.2.1 n_1/\(i_0<=pickB b.1 b.2.1 b.2.2/\pickB b.1 b.2.1 b.2.2<zi n_2)/\(pickB b.1 b.2.1 b.2.2).toNat<n_2/\(i_2=(evtD l p nl ol).1.kind/\k_3/\k_5/\k_7/\k_4/\k_6/\k_9/\k_8/\[i_0,pickB b_2.1 b_2.2.1 b_2.2.2].getD (pickB b.1 b.2.1 b.2.2).toNat i_0=(evtD l p nl ol).1.at_/\k_2)/\q_U b.1 l/\(zi (b.2.1+n_1))=(zi (evtD l p nl ol).2)))))/\((pickB b.1 b.2.1 b.2.2==i_5)=false->∃ (b_1:y_6),((q_U b.1 b_1.1/\(zi (b.2.1+n_1))=zi b_1.2.1)/\wr_ ((zi nl)+i_1)=b_1.2.2)/\rdB b_1.1 b_1.2.1 n_1/\(∃ (b:y_6),((q_U b_1.1 b.1/\(zi (b_1.2.1+n_1))=zi b.2.1)/\i_2=b.2.2)/\rdB b.1 b.2.1 n_1/\(i_0<=pickB b.1 b.2.1 b.2.2/\pickB b.1 b.2.1 b.2.2<zi n_2)/\(pickB b.1 b.2.1 b.2.2).toNat<n_2/\(i_2=(evtD l p nl ol).1.kind/\k_3/\k_5/\k_7/\k_4/\k_6/\k_9/\k_8/\[i_0,pickB b_1.1 b_1.2.1 b_1.2.2].getD (pickB b.1 b.2.1 b.2.2).toNat i_0=(evtD l p nl ol).1.at_/\k_2)/\q_U b.1 l/\(zi (b.2.1+n_1))=(zi (evtD l p nl ol).2)))))))))=_ by kernel_rfl) ?_
 delta i_0 i_1 i_5 i_2 i_3 i_4 wr_ zi n_8 n_1 n_2 i_1000000 t_U q_U i_7 y_6 i_6 i_16
 have hp:=hpre.1
 obtain ⟨_,a4,a5⟩:=hpre
 have b2:∀ k,k<=19->0<=pickB l (p+k) 2/\pickB l (p+k) 2<2:=fun k hk=>pick_lt (l:=l) (p:=p+k) (n:=2) (rdB_le hp (by omega):rdB l (p+k) 1) (by omega)
 simp only [zza,zzb,true_and,and_true,and_self,ne_eq,cI_app,cWrtO_app,cWrtS_app,cWrtO_1,cItemO_1,opr_ex,zcast,frz_nil,nil_map,Option.getD_none,Option.getD_some]
 have e1:IntKind.i64.wrap ((nl:Int)+1)=(nl:Int)+1:=IntWalk.i64_in _ (by omega)
 have e2:IntKind.i64.wrap ((ol:Int)+1)=(ol:Int)+1:=IntWalk.i64_in _ (by omega)
 simp only [Nat.add_assoc,Nat.reduceAdd,e1,e2]
 repeat' first | (with_reducible apply And.intro) | (with_reducible intro h)
 all_goals first
  | exact rdB_le hp (by omega)
  | exact (b2 _ (by omega)).1
  | exact (b2 _ (by omega)).2
  | (have:=b2 2 (by omega);have:=b2 3 (by omega);have:=b2 1 (by omega);have:=b2 4 (by omega);omega)
  | omega
  | rfl
  | simp [evtD, *,dOpr,Nat.add_assoc]
def spec_l20Event_c:Con Tryz.prog:=conP [.ptr,.len] fun (b:List Int×Nat×Nat×Nat) h=>spec_l20Event_ok (b.1) (b.2.1) (b.2.2.1) (b.2.2.2) h
end Go.Proofs.AI
namespace Go.Proofs.AI
open Go.RowKit Go.Proofs
set_option linter.unusedVariables false
set_option linter.unusedSimpArgs false
set_option maxRecDepth 100000
def diskR (l:List Int):Nat->Disk->Nat->Disk×Nat
 | 0,d,p=>(d,p)
 | k+1,d,p=>diskR l k (addD d (noteD l p 0).1 (pickB l (noteD l p 0).2 2==0)).1 ((noteD l p 0).2+1)
def diskBent (l:List Int) (p:Nat) (d:Disk):Disk×Nat :=
 if pickB l p 3=0 then (⟨d.notes,[-1,(d.notes.length:Int)+1].getD (pickB l (p+1) 2).toNat 0⟩,p+2)
 else if pickB l p 3=1 then (⟨d.notes++[(noteD l (p+1) 1).1],d.safe⟩,(noteD l (p+1) 1).2)
 else (⟨d.notes++List.replicate (121-d.notes.length) ⟨3,0,[],[]⟩,d.safe⟩,p+1)
def disk0 (l:List Int) (p:Nat):Disk×Nat:=diskR l (pickB l p 10).toNat ⟨[],0⟩ (p+1)
def diskD (l:List Int) (p:Nat) (n:Int):Disk×Nat :=
 let a:=disk0 l p
 let q:=oddB l a.2 n
 if q.1=true then diskBent l q.2 a.1 else (a.1,q.2)
def playR (l:List Int):Nat->List Evt->Wld->Nat->(List Evt×Wld)×Nat
 | 0,es,w,p=>((es,w),p)
 | k+1,es,w,p=>playR l k (es++[(evtD l p w.net.length w.ops.length).1]) (stepE w (evtD l p w.net.length w.ops.length).1) (evtD l p w.net.length w.ops.length).2
def playD (l:List Int) (p:Nat) (n:Int):(List Evt×Wld)×Nat:=playR l (pickB l p n).toNat [] newW (p+1)
theorem evt_le {l:List Int} {p:Nat} (nl ol:Nat) (h:rdB l p 20):(evtD l p nl ol).2<=p+20:=by
 have:=op_le (l:=l) (p:=p+1) 0 (rdB_le h (by omega))
 simp only [evtD]
 repeat' split
 all_goals simp<;>omega
structure playI (l:List Int) (p:Nat) (n:Int) (a:List Int) (q:Nat) (w:Wld) (es:List Evt) (k:Int):Prop where
 ea:a=l
 k0:0<=k
 k1:k<60
 tm:tame w
 eq:playR l k.toNat es w q=playD l p n
 qb:(q:Int)+20*k<=p+1+20*60
 eb:es.length+k.toNat<=60
theorem spec_l20Play_ok (l:List Int) (p:Nat) (n:Int) (hpre:rdB l p 2000/\n<=60):FunOK Tryz.prog 99 2 [0] [(0,kRd l p),(1,kI n)] (·=[(2,⟨.tup [(false,1),(true,7)],.c (oEvts (playD l p n).1.1)::cKWldO (playD l p n).1.2,[]⟩),(0,kRd l (playD l p n).2)]):=by
 refine fun_to (E:=⟨tab,ctOf [spec_rd_pick_c,spec_WldNew_c,spec_l20Event_c,spec_l7Step_c,spec_l7Copy_c],32,[0],[(0,[0,1,5,7,11,22,23,24,25,31]),(1,[0,1,5,6,7,11,22,23,24,25,31]),(2,[0,1,5,6,7,11,22,23,24,25,31]),(3,[0,5,6,7,8,11,22,23,24,25,31]),(4,[0,5,6,7,8,11,16,22,23,24,25,31]),(5,[0,5,6,7,8,11,22,23,24,25,31]),(6,[0,5,6,7,8,9,11,22,23,24,25,31]),(7,[0,5,6,7,8,9,11,22,23,24,25,31]),(8,[0,5,6,7,8,11,22,23,24,25,31]),(9,[0,4,5,7,11,22,23,24,25,29,31])],[(0,⟨List Int×Nat×List Note×Int×List FTx×List Disk×List Msg×List Opr×List FOut×List Evt×Int,fun x=>[(0,⟨.box,[.c (sU (x.1)),.c (.n .i64 (x.2.1:Int))],[]⟩),(5,⟨.box,[.c (.ow 72 nilR),.c (.n .i64 ((0:Int))),.c (.ow 36 nilR),.c (.ow 25 nilR),.c (.ow 63 nilR),.c (.ow 33 nilR),.c (.ow 79 nilR)],[]⟩),(6,⟨.box,[.c (sNotes (x.2.2.1)),.c (.n .i64 (x.2.2.2.1)),.c (mFTxs (x.2.2.2.2.1)),.c (mDisks (x.2.2.2.2.2.1)),.c (oMsgs (x.2.2.2.2.2.2.1)),.c (oOps (x.2.2.2.2.2.2.2.1)),.c (oFOuts (x.2.2.2.2.2.2.2.2.1))],[]⟩),(7,(k1 (oEvts (x.2.2.2.2.2.2.2.2.2.1)))),(8,(k1 (.n .i64 (x.2.2.2.2.2.2.2.2.2.2)))),(11,(k1 .any))]⟩)],[(7,[(1000000,[])]),(9,[(1000000,[])])],[],[]⟩) tab_ok mixed Tryz.func99 rfl Tryz.ntmps99 (rvs:=[.tmp 4,.cell 5 123]) Tryz.results99 rfl fun hl=>?_
 refine cast (show (let k_4:Prop:=∀ (k:Nat),True/\True;let k_3:Prop:=True/\True/\True/\True/\True/\True/\True/\True;let k_2:Prop:=∀ (k:Nat),True/\True/\k_4/\(∀ (k:Nat),True/\True/\k_4/\True)/\True;let k_1:Prop:=cnRs nilR=cnRs nilR/\i_0=i_0/\cnRs nilR=cnRs nilR/\cnRs nilR=cnRs nilR/\cnRs nilR=cnRs nilR/\cnRs nilR=cnRs nilR/\cnRs nilR=cnRs nilR;∃ (b:Unit),True/\(∃ (b:y_6),((q_U l b.1/\zi p=zi b.2.1)/\n=b.2.2)/\rdB b.1 b.2.1 n_1/\(∃ (pre:y_26->Prop),∃ (μ:y_26->Nat),∃ (x0:y_26),((q_U b.1 x0.1/\(zi (b.2.1+n_1))=zi x0.2.1)/\k_1/\(q_e newW.front.disk.notes x0.2.2.1/\newW.front.disk.safe=x0.2.2.2.1/\q_h newW.front.way x0.2.2.2.2.1/\q_l newW.disks x0.2.2.2.2.2.1/\q_g newW.net x0.2.2.2.2.2.2.1/\q_m newW.ops x0.2.2.2.2.2.2.2.1/\q_k newW.outs x0.2.2.2.2.2.2.2.2.1)/\cnRs (raw [])=t_o x0.2.2.2.2.2.2.2.2.2.1/\pickB b.1 b.2.1 b.2.2=x0.2.2.2.2.2.2.2.2.2.2/\True)/\pre x0/\(∀ (x:y_26),pre x->(decide (x.2.2.2.2.2.2.2.2.2.2>i_0)=true->∃ (b:y_27),((q_U x.1 b.1/\zi x.2.1=zi b.2.1)/\True/\True/\True/\True/\x.2.2.2.2.2.2.1.length=b.2.2.1/\x.2.2.2.2.2.2.2.1.length=b.2.2.2/\True)/\(rdB b.1 b.2.1 n_20/\b.2.2.1<=n_1000/\b.2.2.2<=n_1000)/\(x.2.2.2.2.2.2.2.2.2.1.length+n_1)*n_88<=n_140737488355328/\(∃ (b_1:Wld×Evt),((q_e x.2.2.1 b_1.1.front.disk.notes/\x.2.2.2.1=b_1.1.front.disk.safe/\q_h x.2.2.2.2.1 b_1.1.front.way/\q_l x.2.2.2.2.2.1 b_1.1.disks/\q_g x.2.2.2.2.2.2.1 b_1.1.net/\q_m x.2.2.2.2.2.2.2.1 b_1.1.ops/\q_k x.2.2.2.2.2.2.2.2.1 b_1.1.outs)/\(evtD b.1 b.2.1 b.2.2.1 b.2.2.2).1.kind=b_1.2.kind/\(evtD b.1 b.2.1 b.2.2.1 b.2.2.2).1.op.kind=b_1.2.op.kind/\(evtD b.1 b.2.1 b.2.2.1 b.2.2.2).1.op.who=b_1.2.op.who/\(evtD b.1 b.2.1 b.2.2.1 b.2.2.2).1.op.inn=b_1.2.op.inn/\(evtD b.1 b.2.1 b.2.2.1 b.2.2.2).1.op.code=b_1.2.op.code/\(evtD b.1 b.2.1 b.2.2.1 b.2.2.2).1.op.sec=b_1.2.op.sec/\(evtD b.1 b.2.1 b.2.2.1 b.2.2.2).1.op.fam=b_1.2.op.fam/\(evtD b.1 b.2.1 b.2.2.1 b.2.2.2).1.op.gen=b_1.2.op.gen/\(evtD b.1 b.2.1 b.2.2.1 b.2.2.2).1.at_=b_1.2.at_/\(evtD b.1 b.2.1 b.2.2.1 b.2.2.2).1.place=b_1.2.place/\(evtD b.1 b.2.1 b.2.2.1 b.2.2.2).1.keep=b_1.2.keep)/\tame b_1.1/\(∃ (y:y_26),((q_U b.1 y.1/\(zi (evtD b.1 b.2.1 b.2.2.1 b.2.2.2).2)=zi y.2.1)/\k_1/\(q_e (stepE b_1.1 b_1.2).front.disk.notes y.2.2.1/\(stepE b_1.1 b_1.2).front.disk.safe=y.2.2.2.1/\q_h (stepE b_1.1 b_1.2).front.way y.2.2.2.2.1/\q_l (stepE b_1.1 b_1.2).disks y.2.2.2.2.2.1/\q_g (stepE b_1.1 b_1.2).net y.2.2.2.2.2.2.1/\q_m (stepE b_1.1 b_1.2).ops y.2.2.2.2.2.2.2.1/\q_k (stepE b_1.1 b_1.2).outs y.2.2.2.2.2.2.2.2.1)/\cnRs (appR (typ dEvt eEvt x.2.2.2.2.2.2.2.2.2.1) (raw [[cn_ (evtD b.1 b.2.1 b.2.2.1 b.2.2.2).1.kind,cn_ (evtD b.1 b.2.1 b.2.2.1 b.2.2.2).1.op.kind,cn_ (evtD b.1 b.2.1 b.2.2.1 b.2.2.2).1.op.who,cn_ (evtD b.1 b.2.1 b.2.2.1 b.2.2.2).1.op.inn,cn_ (evtD b.1 b.2.1 b.2.2.1 b.2.2.2).1.op.code,cn_ (evtD b.1 b.2.1 b.2.2.1 b.2.2.2).1.op.sec,cn_ (evtD b.1 b.2.1 b.2.2.1 b.2.2.2).1.op.fam,cn_ (evtD b.1 b.2.1 b.2.2.1 b.2.2.2).1.op.gen,cn_ (evtD b.1 b.2.1 b.2.2.1 b.2.2.2).1.at_,cn_ (evtD b.1 b.2.1 b.2.2.1 b.2.2.2).1.place,cn_ (evtD b.1 b.2.1 b.2.2.1 b.2.2.2).1.keep]]))=t_o y.2.2.2.2.2.2.2.2.2.1/\wr_ (x.2.2.2.2.2.2.2.2.2.2-i_1)=y.2.2.2.2.2.2.2.2.2.2/\True)/\pre y/\μ y<μ x)))/\(decide (x.2.2.2.2.2.2.2.2.2.2>i_0)=false->∃ (b:Wld),(q_e x.2.2.1 b.front.disk.notes/\x.2.2.2.1=b.front.disk.safe/\cnRs (frozenRs (typ dFTx eFTxS x.2.2.2.2.1))=t_h b.front.way/\cnRs (frozenRs (typ dDisk eDiskS x.2.2.2.2.2.1))=t_l b.disks/\cnRs (frozenRs (typ dMsg eMsg x.2.2.2.2.2.2.1))=t_g b.net/\cnRs (frozenRs (typ dOpr eOpr x.2.2.2.2.2.2.2.1))=t_m b.ops/\cnRs (frozenRs (typ dFOut eFOut x.2.2.2.2.2.2.2.2.1))=t_k b.outs)/\smallW b/\((k_2/\True/\(∀ (k:Nat),True/\True/\True/\True/\True/\True/\True/\True/\True/\k_4/\k_4/\True)/\(∀ (k:Nat),k_2/\True/\True)/\(∀ (k:Nat),True/\True/\True/\True/\k_3)/\(∀ (k:Nat),k_3)/\(∀ (k:Nat),True/\True/\True)/\True)/\True)/\(q_o x.2.2.2.2.2.2.2.2.2.1 (playD l p n).1.1/\q_f b.front.disk.notes (playD l p n).1.2.front.disk.notes/\b.front.disk.safe=(playD l p n).1.2.front.disk.safe/\q_j b.front.way (playD l p n).1.2.front.way/\q_n b.disks (playD l p n).1.2.disks/\q_g b.net (playD l p n).1.2.net/\q_m b.ops (playD l p n).1.2.ops/\q_k b.outs (playD l p n).1.2.outs)/\q_U x.1 l/\zi x.2.1=(zi (playD l p n).2))))))=_ by kernel_rfl) ?_
 delta i_0 i_1 wr_ zi n_140737488355328 n_1 n_1000 cn_ t_U q_U y_6 t_e q_e t_f q_f t_g q_g n_88 t_h q_h t_j q_j t_k q_k t_l t_m q_l q_m t_n q_n t_o q_o n_20 y_26 y_27
 have hp:=hpre.1
 have b1:0<=pickB l p n/\pickB l p n<60:=by
  by_cases hn:0<n
  ·have:=pick_lt (l:=l) (p:=p) (n:=n) (rdB_le hp (by omega):rdB l p 1) hn
   have:=hpre.2
   omega
  ·have:pickB l p n=0:=by simp [pickB,show n<1 by omega]
   omega
 simp only [zza,zzb,true_and,and_true,and_self,ne_eq,cI_app,cWrtO_app,cWrtS_app,cWrtO_1,cItemO_1,opr_ex,zcast,frz_nil,nil_map,Option.getD_none,Option.getD_some]
 refine ⟨rdB_le hp (by omega),(),fun x=>playI l p n x.1 x.2.1 ⟨⟨⟨x.2.2.1,x.2.2.2.1⟩,x.2.2.2.2.1⟩,x.2.2.2.2.2.1,x.2.2.2.2.2.2.1,x.2.2.2.2.2.2.2.1,x.2.2.2.2.2.2.2.2.1⟩ x.2.2.2.2.2.2.2.2.2.1 x.2.2.2.2.2.2.2.2.2.2,⟨rfl,b1.1,b1.2,newW_tame,rfl,by simp only;omega,by simp only [List.length_nil];omega⟩,fun x=>x.2.2.2.2.2.2.2.2.2.2.toNat,fun a q ns sf wy ds nt os ou es k hx=>?_⟩
 obtain ⟨h1,h2,h3,h4,h5,h6,h7⟩:=hx
 simp only at h1 h2 h3 h4 h5 h6 h7
 subst h1
 have a1:=h4.nl
 have a2:=h4.ol
 simp only at a1 a2
 refine ⟨fun hk=>?_,fun hk=>?_⟩
 ·have e:IntKind.i64.wrap (k-1)=k-1:=IntWalk.i64_in _ (by omega)
  rw [e]
  obtain ⟨m,rfl⟩:∃ m:Nat,k=(m:Int)+1:=⟨(k-1).toNat,by omega⟩
  have e2:((m:Int)+1).toNat=m+1:=by omega
  have e3:((m:Int)+1-1).toNat=m:=by omega
  have hq:rdB a q 20:=rdB_le hp (by omega)
  have hv:=evt_le (l:=a) (p:=q) nt.length os.length hq
  rw [e2,playR] at h5
  simp only [e3,e2]
  refine ⟨hq,by omega,by omega,by omega,h4,es++[(evtD a q nt.length os.length).1],by simp,⟨rfl,by omega,by omega,stepE_tame h4 _,?_,by omega,?_⟩,by omega⟩
  ·simp only [e3]
   exact h5
  ·simp only [List.length_append,List.length_singleton];omega
 ·obtain rfl:k=0:=by omega
  simp only [Int.toNat_zero,playR] at h5
  rw [<- h5]
  exact ⟨tame_small h4,rfl,rfl,rfl,rfl,rfl,rfl,rfl,rfl,rfl,rfl⟩
def spec_l20Play_c:Con Tryz.prog:=conP [.ptr,.lend] fun (b:List Int×Nat×Int) h=>spec_l20Play_ok (b.1) (b.2.1) (b.2.2) h
end Go.Proofs.AI
namespace Go.Proofs.AI
open Go.RowKit Go.Proofs
set_option linter.unusedVariables false
set_option linter.unusedSimpArgs false
set_option maxRecDepth 100000
theorem addD_len (d:Disk) (n:Note) (s:Bool):(addD d n s).1.notes.length<=120:=by
 simp only [addD]
 split
 ·rename_i h
  simp only [Bool.and_eq_true] at h
  have:=(diskB_small h.1).2.1
  split
  ·exact this
  ·simp only [List.length_append,List.length_singleton];omega
 ·simp
theorem noteO1 (l:List Note) (m:Note):cnRs (appR (typ dNote eNoteO l) (raw [eNoteO m]))=(l++[m]).map nNoteO:=by
 simp [eNoteO]
theorem noteO3 (l:List Note):cnRs (appR (typ dNote eNoteO l) (raw [[CV.n IntKind.i64 3,CV.n IntKind.i64 0,CV.ow tS nilR,CV.ow tWrt nilR]]))=(l++[(⟨3,0,[],[]⟩:Note)]).map nNoteO:=by
 simp
theorem diskD_eq (l:List Int) (p:Nat) (n:Int):diskD l p n=if (oddB l (disk0 l p).2 n).1=true then diskBent l (oddB l (disk0 l p).2 n).2 (disk0 l p).1 else ((disk0 l p).1,(oddB l (disk0 l p).2 n).2):=rfl
abbrev N3:Note:=⟨3,0,[],[]⟩
theorem spec_l20Disk_ok (l:List Int) (p:Nat) (n:Int) (hpre:rdB l p 1400/\n<1000000):FunOK Tryz.prog 101 2 [0] [(0,kRd l p),(1,kI n)] (·=[(2,kDiskO (diskD l p n).1),(0,kRd l (diskD l p n).2)]):=by
 refine fun_to (E:=⟨tab,ctOf [spec_rd_pick_c,spec_rd_odd_c,spec_DiskAdd_c,spec_l20Note_c],61,[0],[(0,[0,1,4,5,60]),(1,[0,1,4,5,60]),(2,[0,1,4,5,6,60]),(3,[0,1,4,5,6,11,60]),(4,[0,1,4,5,6,60]),(5,[0,1,4,5,6,60]),(6,[0,4,5,26,60]),(7,[0,4,5,28,60]),(8,[0,4,5,32,60]),(9,[0,4,5,60]),(10,[0,4,5,28,39,60]),(11,[0,4,5,60]),(12,[0,4,5,51,60]),(13,[0,4,5,60]),(14,[0,4,5,60])],[(0,⟨List Int×Nat×List Note×Int×Int,fun x=>[(0,⟨.box,[.c (sU (x.1)),.c (.n .i64 (x.2.1:Int))],[]⟩),(1,(k1 (.n .i64 n))),(4,⟨.box,[.c (.ow 72 nilR),.c (.n .i64 ((0:Int)))],[]⟩),(5,⟨.box,[.c (oNotes (x.2.2.1)),.c (.n .i64 (x.2.2.2.1))],[]⟩),(6,(k1 (.n .i64 (x.2.2.2.2))))]⟩),(3,⟨List Int×Nat×List Note×Int,fun x=>[(0,⟨.box,[.c (sU (x.1)),.c (.n .i64 (x.2.1:Int))],[]⟩),(4,⟨.box,[.c (.ow 72 nilR),.c (.n .i64 ((0:Int)))],[]⟩),(5,⟨.box,[.c (oNotes (x.2.2.1)),.c (.n .i64 (x.2.2.2))],[]⟩)]⟩)],[(5,[(1000010,[])])],[],[]⟩) tab_ok mixed Tryz.func101 rfl Tryz.ntmps101 (rvs:=[.cell 4 25]) Tryz.results101 rfl fun hl=>?_
 refine cast (show (let k_1:Prop:=cnRs nilR=cnRs nilR/\i_0=i_0;∃ (b:y_6),((q_U l b.1/\zi p=zi b.2.1)/\i_10=b.2.2)/\rdB b.1 b.2.1 n_1/\(∃ (pre:y_28->Prop),∃ (μ:y_28->Nat),∃ (x0:y_28),((q_U b.1 x0.1/\(zi (b.2.1+n_1))=zi x0.2.1)/\n=n/\k_1/\(cnRs nilR=t_f x0.2.2.1/\i_0=x0.2.2.2.1)/\pickB b.1 b.2.1 b.2.2=x0.2.2.2.2)/\pre x0/\(∀ (x:y_28),pre x->(decide (x.2.2.2.2>i_0)=true->∃ (b:y_6),((q_U x.1 b.1/\zi x.2.1=zi b.2.1)/\i_0=b.2.2)/\(rdB b.1 b.2.1 n_120/\b.2.2<i_1000000)/\(∃ (b_1:y_6),((q_U b.1 b_1.1/\(zi (noteD b.1 b.2.1 b.2.2).2)=zi b_1.2.1)/\i_2=b_1.2.2)/\rdB b_1.1 b_1.2.1 n_1/\(∃ (b_2:y_18),((cnRs (frozenRs (typ dNote eNoteO x.2.2.1))=t_e b_2.1.notes/\x.2.2.2.1=b_2.1.safe)/\((noteD b.1 b.2.1 b.2.2).1.kind=b_2.2.1.kind/\(noteD b.1 b.2.1 b.2.2).1.tx=b_2.2.1.tx/\cnRs (frozenRs (typ ByteArray.empty eS (noteD b.1 b.2.1 b.2.2).1.locks))=t_S b_2.2.1.locks/\cnRs (frozenRs (typ dWrt eWrtO (noteD b.1 b.2.1 b.2.2).1.writes))=t_c b_2.2.1.writes)/\(pickB b_1.1 b_1.2.1 b_1.2.2==i_0)=b_2.2.2)/\(((∀ (k:Nat),True/\True/\(∀ (k:Nat),True/\True)/\(∀ (k:Nat),True/\True/\(∀ (k:Nat),True/\True)/\True)/\True)/\True/\True/\True)/\True)/\True/\(∃ (y:y_28),((q_U b_1.1 y.1/\(zi (b_1.2.1+n_1))=zi y.2.1)/\n=n/\k_1/\(q_f (addD b_2.1 b_2.2.1 b_2.2.2).1.notes y.2.2.1/\(addD b_2.1 b_2.2.1 b_2.2.2).1.safe=y.2.2.2.1)/\wr_ (x.2.2.2.2-i_1)=y.2.2.2.2)/\pre y/\μ y<μ x))))/\(decide (x.2.2.2.2>i_0)=false->∃ (b:y_6),((q_U x.1 b.1/\zi x.2.1=zi b.2.1)/\n=b.2.2)/\(rdB b.1 b.2.1 n_1/\b.2.2<i_1000000)/\((oddB b.1 b.2.1 b.2.2).1=true->∃ (b_1:y_6),((q_U b.1 b_1.1/\(zi (oddB b.1 b.2.1 b.2.2).2)=zi b_1.2.1)/\i_3=b_1.2.2)/\rdB b_1.1 b_1.2.1 n_1/\((pickB b_1.1 b_1.2.1 b_1.2.2==i_0)=true->∃ (b:y_6),((q_U b_1.1 b.1/\(zi (b_1.2.1+n_1))=zi b.2.1)/\i_2=b.2.2)/\rdB b.1 b.2.1 n_1/\(i_0<=pickB b.1 b.2.1 b.2.2/\pickB b.1 b.2.1 b.2.2<zi n_2)/\(pickB b.1 b.2.1 b.2.2).toNat<n_2/\(q_f x.2.2.1 (diskD l p n).1.notes/\[(-1:Int),wr_ ((zi x.2.2.1.length)+i_1)].getD (pickB b.1 b.2.1 b.2.2).toNat i_0=(diskD l p n).1.safe)/\q_U b.1 l/\(zi (b.2.1+n_1))=(zi (diskD l p n).2))/\((pickB b_1.1 b_1.2.1 b_1.2.2==i_0)=false->((pickB b_1.1 b_1.2.1 b_1.2.2==i_1)=true->∃ (b:y_6),((q_U b_1.1 b.1/\(zi (b_1.2.1+n_1))=zi b.2.1)/\i_1=b.2.2)/\(rdB b.1 b.2.1 n_120/\b.2.2<i_1000000)/\(x.2.2.1.length+n_1)*n_64<=n_140737488355328/\(cnRs (appR (typ dNote eNoteO x.2.2.1) (raw [[cn_ (noteD b.1 b.2.1 b.2.2).1.kind,cn_ (noteD b.1 b.2.1 b.2.2).1.tx,CV.ow n_9 (typ ByteArray.empty eS (noteD b.1 b.2.1 b.2.2).1.locks),CV.ow n_94 (typ dWrt eWrtO (noteD b.1 b.2.1 b.2.2).1.writes)]]))=t_f (diskD l p n).1.notes/\x.2.2.2.1=(diskD l p n).1.safe)/\q_U b.1 l/\(zi (noteD b.1 b.2.1 b.2.2).2)=(zi (diskD l p n).2))/\((pickB b_1.1 b_1.2.1 b_1.2.2==i_1)=false->∃ (pre:y_29->Prop),∃ (μ:y_29->Nat),∃ (x0:y_29),((q_U b_1.1 x0.1/\(zi (b_1.2.1+n_1))=zi x0.2.1)/\k_1/\q_f x.2.2.1 x0.2.2.1/\x.2.2.2.1=x0.2.2.2)/\pre x0/\(∀ (x:y_29),pre x->(decide (zi x.2.2.1.length<=i_120)=true->(x.2.2.1.length+n_1)*n_64<=n_140737488355328/\(∃ (y:y_29),((q_U x.1 y.1/\zi x.2.1=zi y.2.1)/\k_1/\cnRs (appR (typ dNote eNoteO x.2.2.1) (raw [[cn_ i_3,cn_ i_0,CV.ow n_9 nilR,CV.ow n_94 nilR]]))=t_f y.2.2.1/\x.2.2.2=y.2.2.2)/\pre y/\μ y<μ x))/\(decide (zi x.2.2.1.length<=i_120)=false->(q_f x.2.2.1 (diskD l p n).1.notes/\x.2.2.2=(diskD l p n).1.safe)/\q_U x.1 l/\zi x.2.1=(zi (diskD l p n).2))))))/\((oddB b.1 b.2.1 b.2.2).1=false->(q_f x.2.2.1 (diskD l p n).1.notes/\x.2.2.2.1=(diskD l p n).1.safe)/\q_U b.1 l/\(zi (oddB b.1 b.2.1 b.2.2).2)=(zi (diskD l p n).2))))))=_ by kernel_rfl) ?_
 delta i_0 i_1 i_2 i_3 wr_ zi n_140737488355328 n_1 t_c i_10 cn_ t_S n_2 i_1000000 t_U q_U y_6 t_e i_120 t_f q_f n_64 n_9 n_94 y_18 n_120 y_28 y_29
 have hp:=hpre.1
 have b1:=pick_lt (l:=l) (p:=p) (n:=10) (rdB_le hp (by omega):rdB l p 1) (by omega)
 simp only [zza,zzb,true_and,and_true,and_self,ne_eq,cI_app,cWrtO_app,cWrtS_app,cWrtO_1,cItemO_1,opr_ex,zcast,frz_nil,nil_map,Option.getD_none,Option.getD_some]
 refine ⟨rdB_le hp (by omega),fun x=>x.1=l/\0<=x.2.2.2.2/\x.2.2.2.2<10/\diskR l x.2.2.2.2.toNat ⟨x.2.2.1,x.2.2.2.1⟩ x.2.1=disk0 l p/\(x.2.1:Int)+111*x.2.2.2.2<=p+1+1110/\x.2.2.1.length<=120,⟨rfl,b1.1,b1.2,rfl,by simp only;omega,by simp⟩,fun x=>x.2.2.2.2.toNat,fun a q ns sf k hx=>?_⟩
 obtain ⟨h1,h2,h3,h4,h5,h6⟩:=hx
 simp only at h1 h2 h3 h4 h5 h6
 subst h1
 refine ⟨fun hk=>?_,fun hk=>?_⟩
 ·have e:IntKind.i64.wrap (k-1)=k-1:=IntWalk.i64_in _ (by omega)
  rw [e]
  obtain ⟨m,rfl⟩:∃ m:Nat,k=(m:Int)+1:=⟨(k-1).toNat,by omega⟩
  have e2:((m:Int)+1).toNat=m+1:=by omega
  have e3:((m:Int)+1-1).toNat=m:=by omega
  have hv:=noteD_le (l:=a) (p:=q) 0 (rdB_le hp (by omega))
  rw [e2,diskR] at h4
  simp only [e3,e2]
  refine ⟨rdB_le hp (by omega),by omega,rdB_le hp (by omega),⟨trivial,by omega,by omega,h4,by omega,addD_len _ _ _⟩,by omega⟩
 ·obtain rfl:k=0:=by omega
  simp only [Int.toNat_zero,diskR] at h4
  rw [diskD_eq,<- h4]
  simp only
  have ho:=odd_le a q n
  generalize oddB a q n=Q at *
  have b2:=pick_lt (l:=a) (p:=Q.2+1) (n:=2) (rdB_le hp (by omega):rdB a (Q.2+1) 1) (by omega)
  refine ⟨rdB_le hp (by omega),hpre.2,fun hq=>⟨rdB_le hp (by omega),?_⟩,fun hq=>?_⟩
  ·rw [if_pos hq]
   refine ⟨fun h0=>⟨rdB_le hp (by omega),b2.1,b2.2,by omega,?_⟩,fun h0=>⟨fun h1=>⟨rdB_le hp (by omega),by omega,by omega,?_⟩,fun h1=>?_⟩⟩
   ·have e4:IntKind.i64.wrap ((ns.length:Int)+1)=(ns.length:Int)+1:=IntWalk.i64_in _ (by omega)
    simp [diskBent,h0,e4]
   ·simp only [diskBent,if_neg h0,if_pos h1,true_and,and_true]
    exact noteO1 _ _
   ·refine ⟨fun x=>x.1=a/\x.2.1=Q.2+1/\x.2.2.2=sf/\x.2.2.1.length<=121/\x.2.2.1++List.replicate (121-x.2.2.1.length) N3=ns++List.replicate (121-ns.length) N3,⟨rfl,rfl,rfl,by simp only;omega,rfl⟩,fun x=>121-x.2.2.1.length,fun a' q' ns' sf' hx=>?_⟩
    obtain ⟨g1,g2,g3,g4,g5⟩:=hx
    simp only at g1 g2 g3 g4 g5
    subst g1 g2 g3
    refine ⟨fun hl=>⟨by omega,ns'++[N3],noteO3 _,⟨rfl,rfl,rfl,by simp only [List.length_append,List.length_singleton];omega,?_⟩,by simp only [List.length_append,List.length_singleton];omega⟩,fun hl=>?_⟩
    ·simp only [List.length_append,List.length_singleton]
     rw [<- g5,show 121-ns'.length=(121-(ns'.length+1))+1 by omega,List.replicate_succ,List.append_assoc]
     rfl
    ·have:121-ns'.length=0:=by omega
     rw [this] at g5
     simp only [diskBent,if_neg h0,if_neg h1,true_and,and_true]
     simpa using g5
  ·rw [hq]
   simp
def spec_l20Disk_c:Con Tryz.prog:=conP [.ptr,.lend] fun (b:List Int×Nat×Int) h=>spec_l20Disk_ok (b.1) (b.2.1) (b.2.2) h
end Go.Proofs.AI
namespace Go.Proofs.AI
open Go.RowKit Go.Proofs
set_option linter.unusedVariables false
set_option linter.unusedSimpArgs false
set_option maxRecDepth 100000
theorem playR_le {l:List Int}:∀ (k:Nat) (es:List Evt) (w:Wld) (p:Nat),rdB l p (20*k)->(playR l k es w p).2<=p+20*k
 | 0,es,w,p,h=>by simp [playR]
 | k+1,es,w,p,h=>by
  have h1:=evt_le (l:=l) (p:=p) w.net.length w.ops.length (rdB_le h (by omega))
  have h2:=playR_le k (es++[(evtD l p w.net.length w.ops.length).1]) (stepE w (evtD l p w.net.length w.ops.length).1) (evtD l p w.net.length w.ops.length).2 (rdB_le h (by omega))
  rw [playR];omega
theorem playR_tame {l:List Int}:∀ (k:Nat) (es:List Evt) (w:Wld) (p:Nat),tame w->tame (playR l k es w p).1.2
 | 0,es,w,p,h=>by simpa [playR] using h
 | k+1,es,w,p,h=>by
  rw [playR];exact playR_tame k _ _ _ (stepE_tame h _)
theorem playD_tame (l:List Int) (p:Nat) (n:Int):tame (playD l p n).1.2:=playR_tame _ _ _ _ newW_tame
end Go.Proofs.AI
namespace Go.Proofs.AI
open Go.RowKit Go.Proofs
set_option linter.unusedVariables false
set_option linter.unusedSimpArgs false
set_option maxRecDepth 100000
theorem cSetTO (l:List FTx) (k o:Nat) (x:CV) (t:FTx) (h:(nFTxO (l.getD k dFTx)).set o (cn x)=nFTxO t):cnRs (setF (typ dFTx eFTxO l) k o x)=(l.set k t).map nFTxO:=by
 rw [cnRs_setF,cFTxO]
 apply List.ext_getElem?
 intro i
 simp only [List.getElem?_modify,List.getElem?_map,List.getElem?_set]
 by_cases hk:k=i
 ·subst hk
  by_cases hl:k<l.length
  ·rw [getD_lt hl] at h
   simp [-nFTxO_d,hl,h]
  ·simp [hl]
 ·cases l[i]?<;>simp [hk]
theorem setF_setF (es:Rows CV) (k o:Nat) (x y:CV):setF (setF es k o x) k o y=setF es k o y:=by
 simp only [setF_eq]
 congr 1
 funext i
 split
 ·exact List.set_set ..
 ·rfl
def frontBent (l:List Int) (p:Nat) (f:Front):Front×Nat :=
 if pickB l p 5=0 then (⟨(diskD l (p+1) 2).1,f.way⟩,(diskD l (p+1) 2).2)
 else if pickB l p 5=1 then (⟨f.disk,f.way++[⟨pickB l (p+1) 9-1,(opB l (p+2) 2).1,false,[],[]⟩]⟩,(opB l (p+2) 2).2)
 else if pickB l p 5=2 then (⟨f.disk,f.way++[⟨29,dOpr,true,[],[]⟩]⟩,p+1)
 else if pickB l p 5=3 then (if 0<f.way.length then ⟨f.disk,f.way.set 0 ⟨(f.way.getD 0 dFTx).tx,(f.way.getD 0 dFTx).op,(f.way.getD 0 dFTx).yes,[3,1],(f.way.getD 0 dFTx).know⟩⟩ else f,p+1)
 else (if 0<f.way.length then ⟨f.disk,f.way.set 0 ⟨(f.way.getD 0 dFTx).tx,(f.way.getD 0 dFTx).op,(f.way.getD 0 dFTx).yes,(f.way.getD 0 dFTx).can,(f.way.getD 0 dFTx).know++[4]⟩⟩ else f,p+1)
def frontD (l:List Int) (p:Nat) (n:Int):Front×Nat :=
 let a:=playD l p 50
 let q:=oddB l a.2 n
 if q.1=true then frontBent l q.2 a.1.2.front else (a.1.2.front,q.2)
theorem frontD_eq (l:List Int) (p:Nat) (n:Int):frontD l p n=if (oddB l (playD l p 50).2 n).1=true then frontBent l (oddB l (playD l p 50).2 n).2 (playD l p 50).1.2.front else ((playD l p 50).1.2.front,(oddB l (playD l p 50).2 n).2):=rfl
theorem playD_le50 {l:List Int} {p:Nat} (h:rdB l p 2000):(playD l p 50).2<=p+1000:=by
 have b:=pick_lt (l:=l) (p:=p) (n:=50) (rdB_le h (by omega):rdB l p 1) (by omega)
 have:=playR_le (l:=l) (pickB l p 50).toNat [] newW (p+1) (rdB_le h (by omega))
 simp only [playD];omega
theorem spec_l20Front_ok (l:List Int) (p:Nat) (n:Int) (hpre:rdB l p 4000/\n<1000000):FunOK Tryz.prog 48 2 [0] [(0,kRd l p),(1,kI n)] (·=[(2,kFrontO (frontD l p n).1),(0,kRd l (frontD l p n).2)]):=by
 refine fun_to (E:=⟨tab,ctOf [spec_rd_pick_c,spec_l20Op_c,spec_l20Play_c,spec_rd_odd_c,spec_l20Disk_c],73,[0],[(0,[0,1,4,7,20,21,72]),(1,[0,1,4,6,7,20,21,72]),(2,[0,1,4,7,20,21,72]),(3,[0,4,7,17,20,21,72]),(4,[0,4,7,19,20,21,72]),(5,[0,4,7,20,21,23,72]),(6,[0,4,7,20,21,72]),(7,[0,4,7,19,20,21,35,72]),(8,[0,4,7,20,21,72]),(9,[0,4,7,19,20,21,40,72]),(10,[0,4,7,20,21,72]),(11,[0,4,7,19,20,21,53,72]),(12,[0,4,7,20,21,72]),(13,[0,4,7,20,21,61,72]),(14,[0,4,7,20,21,66,72]),(15,[0,4,7,20,21,72]),(16,[0,4,7,20,21,72])],[],[(1,[(1000007,[])]),(2,[(1000003,[])]),(5,[(1000001,[])]),(6,[(1000008,[])]),(16,[(1000001,[])])],[],[]⟩) tab_ok mixed Tryz.func48 rfl Tryz.ntmps48 (rvs:=[.cell 4 28]) Tryz.results48 rfl fun hl=>?_
 refine cast (show (∃ (b:y_6),let k_9:Prop:=n_0<(playD b.1 b.2.1 b.2.2).1.2.front.way.length;let k_8:Prop:=q_j (playD b.1 b.2.1 b.2.2).1.2.front.way (frontD l p n).1.way;let k_7:Prop:=i_0<=i_0/\i_0<(zi (playD b.1 b.2.1 b.2.2).1.2.front.way.length);let k_6:Prop:=decide ((zi (playD b.1 b.2.1 b.2.2).1.2.front.way.length)>i_0)=true;let k_5:Prop:=(playD b.1 b.2.1 b.2.2).1.2.front.disk.safe=(frontD l p n).1.disk.safe;let k_4:Prop:=decide ((zi (playD b.1 b.2.1 b.2.2).1.2.front.way.length)>i_0)=false;let k_3:Prop:=q_f (playD b.1 b.2.1 b.2.2).1.2.front.disk.notes (frontD l p n).1.disk.notes;let k_2:Prop:=((playD b.1 b.2.1 b.2.2).1.2.front.way.length+n_1)*n_120<=n_140737488355328;let k_1:Prop:=k_3/\k_5/\k_8;((q_U l b.1/\zi p=zi b.2.1)/\i_50=b.2.2)/\(rdB b.1 b.2.1 n_2000/\b.2.2<=i_60)/\True/\True/\(∃ (b_1:y_6),((q_U b.1 b_1.1/\(zi (playD b.1 b.2.1 b.2.2).2)=zi b_1.2.1)/\n=b_1.2.2)/\(rdB b_1.1 b_1.2.1 n_1/\b_1.2.2<i_1000000)/\((oddB b_1.1 b_1.2.1 b_1.2.2).1=true->∃ (b_2:y_6),let k_11:Prop:=q_U b_2.1 l/\(zi (b_2.2.1+n_1))=(zi (frontD l p n).2);let k_10:Prop:=k_4->True/\k_1/\k_11;((q_U b_1.1 b_2.1/\(zi (oddB b_1.1 b_1.2.1 b_1.2.2).2)=zi b_2.2.1)/\i_5=b_2.2.2)/\rdB b_2.1 b_2.2.1 n_1/\((pickB b_2.1 b_2.2.1 b_2.2.2==i_0)=true->∃ (b_3:y_6),((q_U b_2.1 b_3.1/\(zi (b_2.2.1+n_1))=zi b_3.2.1)/\i_2=b_3.2.2)/\(rdB b_3.1 b_3.2.1 n_1400/\b_3.2.2<i_1000000)/\True/\(q_f (diskD b_3.1 b_3.2.1 b_3.2.2).1.notes (frontD l p n).1.disk.notes/\(diskD b_3.1 b_3.2.1 b_3.2.2).1.safe=(frontD l p n).1.disk.safe/\k_8)/\q_U b_3.1 l/\(zi (diskD b_3.1 b_3.2.1 b_3.2.2).2)=(zi (frontD l p n).2))/\((pickB b_2.1 b_2.2.1 b_2.2.2==i_0)=false->((pickB b_2.1 b_2.2.1 b_2.2.2==i_1)=true->∃ (b_3:y_6),((q_U b_2.1 b_3.1/\(zi (b_2.2.1+n_1))=zi b_3.2.1)/\i_9=b_3.2.2)/\rdB b_3.1 b_3.2.1 n_1/\(∃ (b_4:y_6),((q_U b_3.1 b_4.1/\(zi (b_3.2.1+n_1))=zi b_4.2.1)/\i_2=b_4.2.2)/\(rdB b_4.1 b_4.2.1 n_8/\b_4.2.2<i_1000000)/\k_2/\True/\(k_3/\k_5/\cnRs (appR (typ dFTx eFTxO (playD b.1 b.2.1 b.2.2).1.2.front.way) (raw [[cn_ (wr_ (pickB b_3.1 b_3.2.1 b_3.2.2-i_1)),cn_ (opB b_4.1 b_4.2.1 b_4.2.2).1.kind,cn_ (opB b_4.1 b_4.2.1 b_4.2.2).1.who,cn_ (opB b_4.1 b_4.2.1 b_4.2.2).1.inn,cn_ (opB b_4.1 b_4.2.1 b_4.2.2).1.code,cn_ (opB b_4.1 b_4.2.1 b_4.2.2).1.sec,cn_ (opB b_4.1 b_4.2.1 b_4.2.2).1.fam,cn_ (opB b_4.1 b_4.2.1 b_4.2.2).1.gen,CV.b false,CV.ow n_3 nilR,CV.ow n_3 nilR]]))=t_j (frontD l p n).1.way)/\q_U b_4.1 l/\(zi (opB b_4.1 b_4.2.1 b_4.2.2).2)=(zi (frontD l p n).2)))/\((pickB b_2.1 b_2.2.1 b_2.2.2==i_1)=false->((pickB b_2.1 b_2.2.1 b_2.2.2==i_2)=true->k_2/\True/\(k_3/\k_5/\cnRs (appR (typ dFTx eFTxO (playD b.1 b.2.1 b.2.2).1.2.front.way) (raw [[cn_ i_29,cn_ i_0,cn_ i_0,cn_ i_0,cn_ i_0,cn_ i_0,cn_ i_0,cn_ i_0,CV.b true,CV.ow n_3 nilR,CV.ow n_3 nilR]]))=t_j (frontD l p n).1.way)/\k_11)/\((pickB b_2.1 b_2.2.1 b_2.2.2==i_2)=false->((pickB b_2.1 b_2.2.1 b_2.2.2==i_3)=true->(k_6->k_7/\k_9/\True/\(k_3/\k_5/\cnRs (setF (typ dFTx eFTxO (playD b.1 b.2.1 b.2.2).1.2.front.way) n_0 n_9 (CV.ow n_3 (typ i_0 (fun (y:Int)=>[cn_ y]) [i_3,i_1])))=t_j (frontD l p n).1.way)/\k_11)/\k_10)/\((pickB b_2.1 b_2.2.1 b_2.2.2==i_3)=false->(k_6->k_7/\k_9/\k_9/\(((playD b.1 b.2.1 b.2.2).1.2.front.way.getD n_0 dFTx).know.length+n_1)*n_8<=n_140737488355328/\k_7/\k_9/\True/\(k_3/\k_5/\cnRs (setF (setF (typ dFTx eFTxO (playD b.1 b.2.1 b.2.2).1.2.front.way) n_0 n_10 CV.any) n_0 n_10 (CV.ow n_3 (appR (typ i_0 eI ((playD b.1 b.2.1 b.2.2).1.2.front.way.getD n_0 dFTx).know) (typ i_0 (fun (y:Int)=>[cn_ y]) [i_4]))))=t_j (frontD l p n).1.way)/\k_11)/\k_10)))))/\((oddB b_1.1 b_1.2.1 b_1.2.2).1=false->True/\k_1/\q_U b_1.1 l/\(zi (oddB b_1.1 b_1.2.1 b_1.2.2).2)=(zi (frontD l p n).2))))=_ by kernel_rfl) ?_
 delta i_0 i_9 i_1 i_5 i_2 i_3 i_4 wr_ zi n_0 n_8 n_140737488355328 n_1 n_3 cn_ n_10 i_1000000 t_U q_U n_2000 i_29 y_6 t_f q_f n_9 n_120 t_j q_j i_60 i_50 n_1400
 have hp:=hpre.1
 have h1:=playD_le50 (l:=l) (p:=p) (rdB_le hp (by omega))
 have h2:=odd_le l (playD l p 50).2 n
 have hW:=playD_tame l p 50
 have hw:=hW.wl
 have ho:=hW.ol
 rw [frontD_eq]
 simp only [zza,zzb,true_and,and_true,and_self,ne_eq,cI_app,cWrtO_app,cWrtS_app,cWrtO_1,cItemO_1,opr_ex,zcast,frz_nil,nil_map,Option.getD_none,Option.getD_some]
 generalize playD l p 50=A at *
 generalize oddB l A.2 n=Q at *
 refine ⟨rdB_le hp (by omega),by omega,rdB_le hp (by omega),hpre.2,fun hq=>?_,fun hq=>?_⟩
 ·simp only [hq,if_true]
  have b9:=pick_lt (l:=l) (p:=Q.2+1) (n:=9) (rdB_le hp (by omega):rdB l (Q.2+1) 1) (by omega)
  refine ⟨rdB_le hp (by omega),fun c0=>⟨rdB_le hp (by omega),by omega,?_⟩,fun c0=>⟨fun c1=>⟨rdB_le hp (by omega),rdB_le hp (by omega),by omega,by omega,?_⟩,fun c1=>⟨fun c2=>⟨by omega,?_⟩,fun c2=>⟨fun c3=>?_,fun c3=>?_⟩⟩⟩⟩
  ·simp [frontBent,c0]
  ·have e:IntKind.i64.wrap (pickB l (Q.2+1) 9-1)=pickB l (Q.2+1) 9-1:=IntWalk.i64_in _ (by omega)
   simp [frontBent,c0,c1,e]
  ·simp [frontBent,c0,c1,c2,dOpr]
  ·refine ⟨fun hw0=>?_,fun hw0=>?_⟩
   ·have hw0:0<A.1.2.front.way.length:=by omega
    refine ⟨by omega,by omega,hw0,?_,?_,?_,?_⟩
    ·simp [frontBent,c3,hw0]
    ·simp [frontBent,c3,hw0]
    ·rw [cSetTO _ _ _ _ ⟨(A.1.2.front.way.getD 0 dFTx).tx,(A.1.2.front.way.getD 0 dFTx).op,(A.1.2.front.way.getD 0 dFTx).yes,[3,1],(A.1.2.front.way.getD 0 dFTx).know⟩ (by simp)]
     simp only [frontBent,c0,c1,c2,c3,hw0,if_true,if_false];rfl
    ·simp [frontBent,c3]
   ·have hw0:¬ 0<A.1.2.front.way.length:=by omega
    simp only [frontBent,c0,c1,c2,c3,hw0,if_true,if_false]
    try exact ⟨rfl,rfl,rfl,rfl⟩
    try exact ⟨trivial,trivial,trivial,trivial⟩
  ·refine ⟨fun hw0=>?_,fun hw0=>?_⟩
   ·have hw0:0<A.1.2.front.way.length:=by omega
    have hk:=ris3_len (hW.way (A.1.2.front.way.getD 0 dFTx) (by rw [getD_lt hw0];exact List.getElem_mem _)).2
    refine ⟨by omega,by omega,hw0,hw0,by omega,by omega,by omega,hw0,?_,?_,?_,?_⟩
    ·simp only [frontBent,c0,c1,c2,c3,hw0,if_true,if_false]
    ·simp only [frontBent,c0,c1,c2,c3,hw0,if_true,if_false]
    ·rw [setF_setF,cSetTO _ _ _ _ ⟨(A.1.2.front.way.getD 0 dFTx).tx,(A.1.2.front.way.getD 0 dFTx).op,(A.1.2.front.way.getD 0 dFTx).yes,(A.1.2.front.way.getD 0 dFTx).can,(A.1.2.front.way.getD 0 dFTx).know++[4]⟩ (by simp)]
     simp only [frontBent,c0,c1,c2,c3,hw0,if_true,if_false]
    ·simp only [frontBent,c0,c1,c2,c3,if_true,if_false]
   ·have hw0:¬ 0<A.1.2.front.way.length:=by omega
    simp only [frontBent,c0,c1,c2,c3,hw0,if_true,if_false]
    try exact ⟨rfl,rfl,rfl,rfl⟩
    try exact ⟨trivial,trivial,trivial,trivial⟩
 ·simp [hq]
def spec_l20Front_c:Con Tryz.prog:=conP [.ptr,.lend] fun (b:List Int×Nat×Int) h=>spec_l20Front_ok (b.1) (b.2.1) (b.2.2) h
end Go.Proofs.AI
namespace Go.Proofs.AI
open Go.RowKit Go.Proofs
set_option linter.unusedVariables false
set_option linter.unusedSimpArgs false
set_option maxRecDepth 100000
def oddN (n:Note):Bool:=!(n.kind==2||n.kind==4)
theorem odd_all (l:List Note):(l.all fun n=>n.kind==2||n.kind==4)=!(l.any oddN):=by
 rw [List.all_eq_not_any_not]<;>rfl
theorem NoteOdd_ok (n:Note):FunOK Tryz.prog 50 1 [] [(0,kNoteS n)] (·=[(1,kB (oddN n))]):=by
 refine fun_to (E:=⟨tab,ctOf [],11,[],[(0,[1]),(1,[2])],[],[],[],[]⟩) tab_ok mixed Tryz.func50 rfl Tryz.ntmps50 (rvs:=[.tmp 2]) Tryz.results50 rfl fun hl=>?_
 refine cast (show (((n.kind != i_2)=true->(n.kind != i_4)=oddN n)/\((n.kind != i_2)=false->false=oddN n))=_ by kernel_rfl) ?_
 delta i_2 i_4
 simp only [zza,zzb,true_and,and_true,and_self,ne_eq,cI_app,cWrtO_app,cWrtS_app,cWrtO_1,cItemO_1,opr_ex,zcast,frz_nil,nil_map,Option.getD_none,Option.getD_some]
 simp only [oddN]
 refine ⟨fun h=>?_,fun h=>?_⟩
 ·rw [Bool.eq_iff_iff];simp [h]
 ·simp at h;simp [h]
def NoteOdd_c:Con Tryz.prog:=con0 [.lend] fun b:Note=>NoteOdd_ok b
theorem IndexOdd_ok (xs:List Note):FunOK Tryz.prog 104 2 [] [(0,k1 (sNotes xs)),(1,kF 50)] (·=[(2,kI (idxOf oddN xs))]):=by
 refine fun_to (E:=⟨tab,ctOf [NoteOdd_c],19,[],[(0,[0,1]),(1,[0,1,7,8]),(2,[0,1,7,8,9]),(3,[0,1,5,7,8]),(4,[0,1,5,7,8,16]),(5,[4]),(6,[0,1,7,8]),(7,[4])],[(0,⟨Nat,fun x=>[(0,(k1 (.sh 72 (typ dNote eNoteS xs)))),(1,(k1 (.vl (Value.func (Fn.func (50:FuncId)) { toList:=[] } { toList:=[] })))),(7,(k1 (.n .i64 ((↑xs.length:Int))))),(8,(k1 (.n .i64 (x:Int))))]⟩)],[],[],[]⟩) tab_ok mixed Tryz.func104 rfl Tryz.ntmps104 (rvs:=[.tmp 4]) Tryz.results104 rfl fun hl=>?_
 refine cast (show (let k_1:Prop:=Value.func (Fn.func (50:FuncId)) { toList:=[] } { toList:=[] }=Value.func (Fn.func (50:FuncId)) { toList:=[] } { toList:=[] };∃ (pre:Nat->Prop),∃ (μ:Nat->Nat),∃ (x0:Nat),(q_e xs xs/\k_1/\zi xs.length=zi xs.length/\i_0=zi x0)/\pre x0/\(∀ (x:Nat),pre x->(decide (zi x<zi xs.length)=true->(i_0<=zi x/\zi x<zi xs.length)/\(∃ (b:Note),((g_Note xs x).kind=b.kind/\(g_Note xs x).tx=b.tx/\q_S (g_Note xs x).locks b.locks/\q_c (g_Note xs x).writes b.writes)/\(oddN b=true->zi x=idxOf oddN xs)/\(oddN b=false->∃ (y:Nat),(q_e xs xs/\k_1/\zi xs.length=zi xs.length/\wr_ ((zi x)+i_1)=zi y)/\pre y/\μ y<μ x)))/\(decide (zi x<zi xs.length)=false->(-1:Int)=idxOf oddN xs)))=_ by kernel_rfl) ?_
 delta i_0 i_1 wr_ zi t_c q_c t_S q_S g_Note t_e q_e
 have hx:xs.length<=9223372036854775807:=hl.1 _ (List.mem_singleton.2 rfl)
 simp only [zza,zzb,true_and,and_true,and_self,ne_eq,cI_app,cWrtO_app,cWrtS_app,cWrtO_1,cItemO_1,opr_ex,zcast,frz_nil,nil_map,Option.getD_none,Option.getD_some]
 refine ⟨fun i=>i<=xs.length/\∀ j,j<i->oddN (xs.getD j dNote)=false,⟨by simp,fun j hj=>absurd hj (Nat.not_lt_zero _)⟩,fun i=>xs.length-i,fun i hi=>?_⟩
 obtain ⟨h1,h2⟩:=hi
 refine ⟨fun hlt=>⟨by omega,by omega,fun hp=>?_,fun hp=>⟨i+1,wrapN (by omega),⟨by omega,below_succ h2 hp⟩,by simp only;omega⟩⟩,fun hge=>?_⟩
 ·exact (idx_hit (p:=oddN) (by omega) hp h2).symm
 ·exact (idx_miss (p:=oddN) (d:=dNote) fun j hj=>h2 j (by omega)).symm
def IndexOdd_c:Con Tryz.prog:=con0 [.lend,.lend] fun b:List Note=>IndexOdd_ok b
theorem ContainsOdd_ok (xs:List Note):FunOK Tryz.prog 52 2 [] [(0,k1 (sNotes xs)),(1,kF 50)] (·=[(2,kB (xs.any oddN))]):=by
 refine fun_to (E:=⟨tab,ctOf [IndexNote_c],9,[],[(0,[0,1]),(1,[4])],[],[],[],[(1,[IndexOdd_c])]⟩) tab_ok mixed Tryz.func52 rfl Tryz.ntmps52 (rvs:=[.tmp 4]) Tryz.results52 rfl fun hl=>?_
 refine cast (show (∃ (b:List Note),(q_e xs b/\Value.func (Fn.func (50:FuncId)) { toList:=[] } { toList:=[] }=Value.func (Fn.func (50:FuncId)) { toList:=[] } { toList:=[] })/\decide (idxOf oddN b≥i_0)=xs.any oddN)=_ by kernel_rfl) ?_
 delta i_0 t_e q_e
 simp only [zza,zzb,true_and,and_true,and_self,ne_eq,cI_app,cWrtO_app,cWrtS_app,cWrtO_1,cItemO_1,opr_ex,zcast,frz_nil,nil_map,Option.getD_none,Option.getD_some]
 exact idx_ge _ _
def ContainsOdd_c:Con Tryz.prog:=con0 [.lend,.lend] fun b:List Note=>ContainsOdd_ok b
theorem impl_servicesOk_ok (l:List Int):FunOK Tryz.prog 54 1 [] [(0,k1 (sI l))] (·=[(1,kB (risB l))]):=by
 refine fun_to (E:=⟨tab,ctOf [impl_isService_c],29,[],[(0,[0]),(1,[0,5,6,7]),(2,[0,5,6,7,8]),(3,[0,3,4,5,6,7]),(4,[0,5,6,7,27]),(5,[2]),(6,[0,5,6,7]),(7,[2])],[(0,⟨Nat,fun x=>[(0,(k1 (.sh 3 (typ (0:Int) eI l)))),(5,(k1 (.sh 3 (typ (0:Int) eI l)))),(6,(k1 (.n .i64 ((↑l.length:Int))))),(7,(k1 (.n .i64 (x:Int))))]⟩)],[],[],[]⟩) tab_ok mixed Tryz.func54 rfl Tryz.ntmps54 (rvs:=[.tmp 2]) Tryz.results54 rfl fun hl=>?_
 refine cast (show (let k_1:Prop:=zi l.length=zi l.length;∃ (pre:Nat->Prop),∃ (μ:Nat->Nat),∃ (x0:Nat),(q_I l l/\q_I l l/\k_1/\i_0=zi x0)/\pre x0/\(∀ (x:Nat),let k_2:Prop:=∃ (y:Nat),(q_I l l/\q_I l l/\k_1/\wr_ ((zi x)+i_1)=zi y)/\pre y/\μ y<μ x;pre x->(decide (zi x<zi l.length)=true->(i_0<=zi x/\zi x<zi l.length)/\(∃ (b:Int),g_Int l x=b/\((!inR b i_1 i_3)=false->(decide ((zi x)>i_0)=true->(i_0<=wr_ ((zi x)-i_1)/\wr_ ((zi x)-i_1)<zi l.length)/\(decide (g_Int l x<=l.getD (wr_ ((zi x)-i_1)).toNat i_0)=true->false=risB l)/\(decide (g_Int l x<=l.getD (wr_ ((zi x)-i_1)).toNat i_0)=false->k_2))/\(decide ((zi x)>i_0)=false->k_2))/\((!inR b i_1 i_3)=true->false=risB l)))/\(decide (zi x<zi l.length)=false->true=risB l)))=_ by kernel_rfl) ?_
 delta i_0 i_1 i_3 wr_ g_Int zi t_I q_I
 have hx:l.length<=9223372036854775807:=hl.1 (.c (sI l)) (by simp)
 simp only [zza,zzb,true_and,and_true,and_self,ne_eq,cI_app,cWrtO_app,cWrtS_app,cWrtO_1,cItemO_1,opr_ex,zcast,frz_nil,nil_map,Option.getD_none,Option.getD_some]
 refine ⟨fun i=>i<=l.length/\∀ j,j<i->risP l j=true,⟨by omega,fun j hj=>absurd hj (Nat.not_lt_zero _)⟩,fun i=>l.length-i,fun i hp=>?_⟩
 obtain ⟨h1,h2⟩:=hp
 have bad:i<l.length->risP l i=false->false=risB l:=fun hlt h=>(range_hit hlt h).symm
 have go:i<l.length->risP l i=true->∃ y:Nat,IntKind.i64.wrap ((i:Int)+1)=(y:Int)/\(y<=l.length/\∀ j,j<y->risP l j=true)/\l.length-y<l.length-i:=fun hlt h =>
  ⟨i+1,wrapN (by omega),⟨by omega,below_succ h2 h⟩,by omega⟩
 refine ⟨fun hlt=>⟨by omega,hlt,fun e1=>⟨fun e2=>?_,fun e2=>go (by omega) ?_⟩,fun e1=>bad (by omega) ?_⟩,fun hge=>?_⟩
 ·have hw:IntKind.i64.wrap ((i:Int)-1)=((i-1:Nat):Int):=by rw [IntWalk.i64_in _ (by omega)];omega
  rw [hw,Int.toNat_natCast]
  have h0:(i==0)=false:=by simp;omega
  have e1:inR (l.getD i 0) 1 3=true:=by simpa using e1
  refine ⟨by omega,by omega,fun e3=>bad (by omega) ?_,fun e3=>go (by omega) ?_⟩
  ·simp only [risP,e1,h0,Bool.true_and,Bool.false_or];exact decide_eq_false (by omega)
  ·simp only [risP,e1,h0,Bool.true_and,Bool.false_or];exact decide_eq_true (by omega)
 ·have e1:inR (l.getD i 0) 1 3=true:=by simpa using e1
  have h0:(i==0)=true:=by simp;omega
  simp only [risP,e1,h0,Bool.true_or,Bool.and_self]
 ·have e1:inR (l.getD i 0) 1 3=false:=by simpa using e1
  simp only [risP,e1,Bool.false_and]
 ·exact (range_miss (fun j hj=>h2 j (by omega))).symm
def impl_servicesOk_c:Con Tryz.prog:=con0 [.lend] fun b:List Int=>impl_servicesOk_ok b
theorem impl_FroOk_ok (f:Front):FunOK Tryz.prog 11 1 [] [(0,kFrontS f)] (·=[(1,kB (froB f))]):=by
 refine fun_to (E:=⟨tab,ctOf [impl_DiskOk_c,ContainsNote_c,impl_isTx_c,impl_servicesOk_c,impl_of_c,impl_OpOk_c],90,[],[(0,[1]),(1,[1,3]),(2,[1,22]),(3,[2]),(4,[1,23,24,25,26]),(5,[1,23,24,25,26,27]),(6,[1,4,5,23,24,25,26]),(7,[1,5,23,24,25,26,62]),(8,[2]),(9,[1,23,24,25,26,88]),(10,[2]),(11,[1,23,24,25,26]),(12,[2])],[(0,⟨Nat,fun x=>[(1,⟨.box,[.c (.sh 72 (typ dNote eNoteS f.disk.notes)),.c (.n .i64 f.disk.safe),.c (.sh 36 (typ dFTx eFTxS f.way))],[]⟩),(23,⟨.one,[.pr 1 2 0],[]⟩),(24,(k1 (.sh 36 (typ dFTx eFTxS f.way)))),(25,(k1 (.n .i64 ((↑f.way.length:Int))))),(26,(k1 (.n .i64 (x:Int))))]⟩)],[],[],[(2,[ContainsOdd_c])]⟩) tab_ok mixed Tryz.func11 rfl Tryz.ntmps11 (rvs:=[.tmp 2]) Tryz.results11 rfl fun hl=>?_
 refine cast (show (let k_3:Prop:=zi f.way.length=zi f.way.length;let k_2:Prop:=n_1=n_1/\n_2=n_2/\true=true;let k_1:Prop:=q_e f.disk.notes f.disk.notes/\f.disk.safe=f.disk.safe/\q_h f.way f.way;∃ (b:Disk),(q_e f.disk.notes b.notes/\f.disk.safe=b.safe)/\((!diskB b)=false->∃ (b:List Note),(q_e f.disk.notes b/\Value.func (Fn.func n_50) #[] #[]=Value.func (Fn.func (50:FuncId)) { toList:=[] } { toList:=[] })/\(b.any oddN=false->(decide ((zi f.way.length)>i_30)=true->false=froB f)/\(decide ((zi f.way.length)>i_30)=false->∃ (pre:Nat->Prop),∃ (μ:Nat->Nat),∃ (x0:Nat),(k_1/\k_2/\q_h f.way f.way/\k_3/\i_0=zi x0)/\pre x0/\(∀ (x:Nat),let k_5:Prop:=∃ (y:Nat),(k_1/\k_2/\q_h f.way f.way/\k_3/\wr_ ((zi x)+i_1)=zi y)/\pre y/\μ y<μ x;let k_4:Prop:=∃ (b:List Int),q_I (g_FTx f.way x).can b/\((!risB b)=false->∃ (b:List Int),q_I (g_FTx f.way x).know b/\((!risB b)=true->false=froB f)/\((!risB b)=false->∃ (b:Disk×Int),((q_e f.disk.notes b.1.notes/\f.disk.safe=b.1.safe)/\(g_FTx f.way x).tx=b.2)/\((if true=true then !(g_FTx f.way x).yes==(ofN b.1.notes b.2==i_2) else (g_FTx f.way x).yes==(ofN b.1.notes b.2==i_2))=false->((!(g_FTx f.way x).yes)=true->∃ (b:Opr),((g_FTx f.way x).op.kind=b.kind/\(g_FTx f.way x).op.who=b.who/\(g_FTx f.way x).op.inn=b.inn/\(g_FTx f.way x).op.code=b.code/\(g_FTx f.way x).op.sec=b.sec/\(g_FTx f.way x).op.fam=b.fam/\(g_FTx f.way x).op.gen=b.gen)/\((!opOk b)=false->(decide ((zi (g_FTx f.way x).know.length)>i_0)=true->false=froB f)/\(decide ((zi (g_FTx f.way x).know.length)>i_0)=false->k_5))/\((!opOk b)=true->false=froB f))/\((!(g_FTx f.way x).yes)=false->k_5))/\((if true=true then !(g_FTx f.way x).yes==(ofN b.1.notes b.2==i_2) else (g_FTx f.way x).yes==(ofN b.1.notes b.2==i_2))=true->false=froB f)))/\((!risB b)=true->false=froB f);pre x->(decide (zi x<zi f.way.length)=true->(i_0<=zi x/\zi x<zi f.way.length)/\(∃ (b:Int),(g_FTx f.way x).tx=b/\((!inR b i_0 i_29)=false->(decide ((zi x)>i_0)=true->(i_0<=wr_ ((zi x)-i_1)/\wr_ ((zi x)-i_1)<zi f.way.length)/\(decide ((g_FTx f.way x).tx<=(f.way.getD (wr_ ((zi x)-i_1)).toNat dFTx).tx)=false->k_4)/\(decide ((g_FTx f.way x).tx<=(f.way.getD (wr_ ((zi x)-i_1)).toNat dFTx).tx)=true->false=froB f))/\(decide ((zi x)>i_0)=false->k_4))/\((!inR b i_0 i_29)=true->false=froB f)))/\(decide (zi x<zi f.way.length)=false->true=froB f))))/\(b.any oddN=true->false=froB f))/\((!diskB b)=true->false=froB f))=_ by kernel_rfl) ?_
 delta i_0 i_1 i_2 wr_ zi t_I q_I n_1 n_2 i_29 i_30 t_e q_e g_FTx t_h q_h n_50
 have hx:f.disk.notes.length<=9223372036854775807:=hl.1 (.c (sNotes f.disk.notes)) (by simp)
 have hy:f.way.length<=9223372036854775807:=hl.1 (.c (sFTxs f.way)) (by simp)
 simp only [zza,zzb,true_and,and_true,and_self,ne_eq,cI_app,cWrtO_app,cWrtS_app,cWrtO_1,cItemO_1,opr_ex,zcast,frz_nil,nil_map,Option.getD_none,Option.getD_some,if_true]
 refine ⟨fun h1=>⟨fun h2=>⟨fun h3=>?_,fun h3=>?_⟩,fun h2=>?_⟩,fun h1=>?_⟩
 ·have:¬ f.way.length<=30:=by omega
  simp [froB,this]
 ·have h1:diskB f.disk=true:=by simpa using h1
  have h3:f.way.length<=30:=by omega
  have h2:f.disk.notes.any oddN=false:=h2
  have hn:froB f=(List.range f.way.length).all (wayP f):=by simp only [froB,odd_all,h1,h2,h3,decide_true,Bool.not_false,Bool.true_and,Bool.and_true]
  rw [hn]
  refine ⟨fun i=>i<=f.way.length/\∀ j,j<i->wayP f j=true,⟨by omega,fun j hj=>absurd hj (Nat.not_lt_zero _)⟩,fun i=>f.way.length-i,fun i hp=>?_⟩
  obtain ⟨g1,g2⟩:=hp
  refine ⟨fun hlt=>?_,fun hge=>(range_miss (fun j hj=>g2 j (by omega))).symm⟩
  have hlt:i<f.way.length:=by omega
  have bad:wayP f i=false->false=(List.range f.way.length).all (wayP f):=fun h=>(range_hit hlt h).symm
  have go:wayP f i=true->∃ y:Nat,IntKind.i64.wrap ((i:Int)+1)=(y:Int)/\(y<=f.way.length/\∀ j,j<y->wayP f j=true)/\f.way.length-y<f.way.length-i:=fun h=>⟨i+1,wrapN (by omega),⟨by omega,below_succ g2 h⟩,by omega⟩
  have hw:0<i->IntKind.i64.wrap ((i:Int)-1)=((i-1:Nat):Int):=fun h0=>by rw [IntWalk.i64_in _ (by omega)];omega
  have hP:wayP f i=(inR (f.way.getD i dFTx).tx 0 29&&(i==0||decide ((f.way.getD (i-1) dFTx).tx<(f.way.getD i dFTx).tx))&&risB (f.way.getD i dFTx).can&&risB (f.way.getD i dFTx).know&&((f.way.getD i dFTx).yes==(ofN f.disk.notes (f.way.getD i dFTx).tx==2))&&((f.way.getD i dFTx).yes||(opOk (f.way.getD i dFTx).op&&(f.way.getD i dFTx).know.length==0))):=rfl
  generalize f.way.getD i dFTx=T at hP ⊢
  clear h2
  have tail:inR T.tx 0 29=true->(i==0||decide ((f.way.getD (i-1) dFTx).tx<T.tx))=true ->
   (((!risB T.can)=false->((!risB T.know)=true->false=(List.range f.way.length).all (wayP f))/\((!risB T.know)=false->(((!T.yes==(ofN f.disk.notes T.tx==2))=false->((!T.yes)=true->((!opOk T.op)=false->(0<(T.know.length:Int)->false=(List.range f.way.length).all (wayP f))/\(¬ 0<(T.know.length:Int)->∃ y:Nat,IntKind.i64.wrap ((i:Int)+1)=(y:Int)/\(y<=f.way.length/\∀ j,j<y->wayP f j=true)/\f.way.length-y<f.way.length-i))/\((!opOk T.op)=true->false=(List.range f.way.length).all (wayP f)))/\((!T.yes)=false->∃ y:Nat,IntKind.i64.wrap ((i:Int)+1)=(y:Int)/\(y<=f.way.length/\∀ j,j<y->wayP f j=true)/\f.way.length-y<f.way.length-i))/\((!T.yes==(ofN f.disk.notes T.tx==2))=true->false=(List.range f.way.length).all (wayP f)))))/\((!risB T.can)=true->false=(List.range f.way.length).all (wayP f))):=fun a1 a2=>by
   rw [a1,a2] at hP
   refine ⟨fun e4=>⟨fun e5=>bad ?_,fun e5=>⟨fun e6=>⟨fun e7=>⟨fun e8=>⟨fun e9=>bad ?_,fun e9=>go ?_⟩,fun e8=>bad ?_⟩,fun e7=>go ?_⟩,fun e6=>bad ?_⟩⟩,fun e4=>bad ?_⟩
   ·rw [hP];simp at e4 e5;simp [e5]
   ·have:¬ T.know.length=0:=by omega
    rw [hP];simp at e7;simp [e7,this]
   ·have:T.know.length=0:=by omega
    simp at e4 e5 e6 e7 e8
    rw [hP,e4,e5,e8,this];simp [e7] at e6 ⊢;simp [e6]
   ·rw [hP];simp at e7 e8;simp [e7,e8]
   ·simp at e4 e5 e6 e7
    rw [hP,e4,e5];simp [e7] at e6 ⊢;simp [e6]
   ·rw [hP];cases hy1:T.yes<;>simp [hy1] at e6 ⊢<;>simp [e6]
   ·rw [hP];simp at e4;simp [e4]
  refine ⟨by omega,by omega,fun e1=>⟨fun e2=>?_,fun e2=>?_⟩,fun e1=>bad (by rw [hP];simp at e1;simp [e1])⟩
  ·rw [hw (by omega),Int.toNat_natCast]
   have h0:(i==0)=false:=by simp;omega
   refine ⟨by omega,by omega,fun e3=>?_,fun e3=>bad (by rw [hP,h0,decide_eq_false (show ¬ (f.way.getD (i-1) dFTx).tx<T.tx by omega)];simp only [Bool.false_or,Bool.and_false,Bool.false_and])⟩
   exact tail (by simpa using e1) (by rw [h0];simp;simpa using e3)
  ·exact tail (by simpa using e1) (by simp;exact .inl (by omega))
 ·have h2:f.disk.notes.any oddN=true:=h2
  simp only [froB,odd_all,h2,Bool.not_true,Bool.and_false,Bool.false_and]
 ·have h1:diskB f.disk=false:=by simpa using h1
  simp only [froB,h1,Bool.false_and]
def impl_FroOk_c:Con Tryz.prog:=con0 [.lend] fun b:Front=>impl_FroOk_ok b
end Go.Proofs.AI
namespace Go.Proofs.AI
open Go.RowKit Go.Proofs Go.ChangeShapes Go.WideShapes Go.ChangeAt
set_option linter.unusedVariables false
set_option linter.unusedSimpArgs false
theorem open_code {P:Program} {H:Type} {enc:TypeId×Value->H} {w:World} {base:Nat} {spare:Nat->Bool} {held:Bool} {r:Reach} {b0:Nat} {t:TypeId} {v:Value} {d:DataW H} {p:List MemPlace}
  (ht:P.underlying t=some (.slice 5)) (h5:P.underlying 5=some (.int .u8)) (hc:P.cellsOf 5=1) (hval:Value.okWide P w r b0 t v) (h:DataW.Trod enc P w base spare held t v d p) :
  ∃ l,okU l/\Rep P w (fun b=>b<w.heap.size) (sU l) v FP.none:=by
 obtain ⟨A,n,c,rfl⟩:=okWide_slice ht hval
 obtain ⟨fuel,hf⟩:=h
 rcases open_ints ht h5 hc hf with ⟨hcs,hx⟩ | ⟨a,len,cap,zs,hcs,_,hl,hm,hz,hx,hcell,hwz⟩
 ·simp [Value.cells] at hcs
  obtain ⟨rfl,rfl,rfl⟩:=hcs
  refine ⟨[],fun x hx=>(by simp at hx),Rep.sh (es:=typ 0 eU []) (fun _ _=>undef) (Nat.le_refl _) (by decide) (fun h=>absurd h (by decide)) (fun k row h=>?_) (fun k row o x h _=>?_)⟩
  ·rw [typ_l] at h;simp at h
  ·rw [typ_l] at h;simp at h
 ·simp [Value.cells] at hcs
  obtain ⟨rfl,rfl,rfl⟩:=hcs
  have hzl:n<=zs.length:=by
   rw [hz];split<;>omega
  refine ⟨zs.take n,fun x hx=>?_,rep_ints (k:=.u8) hc hl hm (by rw [List.length_take];omega) (fun i hi=>?_)⟩
  ·have:=hwz x (List.mem_of_mem_take hx)
   simp only [Lit.wf,Bool.and_eq_true,decide_eq_true_eq] at this
   have h1:(0:Int)<=x/\x<=255:=this
   omega
  ·rw [hcell i (by omega)]
   simp [List.getD_eq_getElem?_getD,List.getElem?_take,hi]
end Go.Proofs.AI
namespace Go.Proofs.AI
set_option linter.unusedVariables false
set_option linter.unusedSimpArgs false
structure okT (ns:List Note) (t:FTx):Prop where
 tx:0<=t.tx/\t.tx<=29
 can:ris3 t.can
 know:ris3 t.know
 yes:t.yes=(ofN ns t.tx==2)
 op:t.yes=false->opOk t.op=true/\t.know=[]
structure okF (f:Front):Prop where
 fd:diskB f.disk=true
 wl:f.way.length<=30
 kd:∀ n∈f.disk.notes,n.kind=2∨n.kind=4
 ws:f.way.Pairwise fun a b=>a.tx<b.tx
 ok:∀ t∈f.way,okT f.disk.notes t
theorem getD_mem' {α:Type} {l:List α} {d:α} {k:Nat} (h:k<l.length):l.getD k d∈l:=by rw [getD_lt h];exact List.getElem_mem _
theorem okF.at_ {f:Front} (h:okF f) {k:Nat} (hk:k<f.way.length):okT f.disk.notes (f.way.getD k dFTx):=h.ok _ (getD_mem' hk)
end Go.Proofs.AI
