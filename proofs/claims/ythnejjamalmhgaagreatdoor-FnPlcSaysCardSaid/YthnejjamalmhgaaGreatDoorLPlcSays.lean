/- What the function of this law does, in data. Conditions: none. -/
import Derived.KernelRfl
import Derived.IntWalk
import Derived.Test.YthnejjamalmhgaaGreatDoorProg
import Derived.Test.YthnejjamalmhgaaGreatDoorK05
namespace Go.Proofs.AI
open Go.RowKit Go.Proofs
set_option linter.unusedVariables false
set_option linter.unusedSimpArgs false
set_option maxRecDepth 100000
abbrev y_43:Type:=List Msg×List Msg
end Go.Proofs.AI
namespace Go.Proofs.AI
open Go.RowKit Go.Proofs
set_option linter.unusedVariables false
set_option linter.unusedSimpArgs false
set_option maxRecDepth 100000
theorem impl_DiskOf_ok (d:Disk) (tx:Int):FunOK Tryz.prog 27 2 [] [(0,kDiskS d),(1,kI tx)] (·=[(2,kI (if diskB d=true then ofN d.notes tx else 0))]):=by
 refine fun_to (E:=⟨tab,ctOf [impl_DiskOk_c,impl_of_c],11,[],[(0,[1,2]),(1,[1,2,7]),(2,[4]),(3,[4])],[],[],[],[]⟩) tab_ok mixed Tryz.func27 rfl Tryz.ntmps27 (rvs:=[.tmp 4]) Tryz.results27 rfl fun hl=>?_
 refine cast (show (∃ (b:Disk),(q_e d.notes b.notes/\d.safe=b.safe)/\((!diskB b)=true->i_0=if diskB d=true then ofN d.notes tx else i_0)/\((!diskB b)=false->∃ (b:Disk×Int),((q_e d.notes b.1.notes/\d.safe=b.1.safe)/\tx=b.2)/\ofN b.1.notes b.2=if diskB d=true then ofN d.notes tx else i_0))=_ by kernel_rfl) ?_
 delta i_0 t_e q_e
 simp only [zza,zzb,true_and,and_true,and_self,ne_eq,cI_app,cWrtO_app,cWrtS_app,cWrtO_1,cItemO_1,opr_ex,zcast,frz_nil,nil_map,Option.getD_none,Option.getD_some]
 refine ⟨fun h=>?_,fun h=>?_⟩
 ·have h:diskB d=false:=by simpa only [Bool.not_eq_true'] using h
  rw [if_neg (by rw [h];decide)]
 ·have h:diskB d=true:=by simpa only [Bool.not_eq_false'] using h
  rw [if_pos h]
def impl_DiskOf_c:Con Tryz.prog:=con0 [.lend,.lend] fun b:Disk×Int=>impl_DiskOf_ok (b.1) (b.2)
end Go.Proofs.AI
namespace Go.Proofs.AI
open Go.RowKit
set_option linter.unusedVariables false
set_option linter.unusedSimpArgs false
def eqFs2 (P:Program):List CK->Nat->List Field->Bool
 | ks,_,[]=>ks.isEmpty
 | ks,j,f::fs=>(f.name != "_")&&f.offset==j&&match P.underlying f.type with
  | some (.struct gs)=>!P.stoodInHeld f.type&&decide (gs.size<=ks.length)&&decide ((P.info? f.type).map (·.size)=some gs.size)&&eqFs P (ks.take gs.size) 0 gs.toList&&eqFs2 P (ks.drop gs.size) (j+gs.size) fs
  | u=>match ks with
   | k::ks=>ckOf u k&&eqFs2 P ks (j+1) fs
   | []=>false
theorem areCK_app:∀ {ks ks':List CK} {xs:List Value},areCK (ks++ks') xs->areCK ks (xs.take ks.length)/\areCK ks' (xs.drop ks.length)
 | [],_,_,h=>⟨trivial,h⟩
 | _::_,_,[],h=>h.elim
 | _::ks,_,_::xs,h=>⟨⟨h.1,(areCK_app h.2).1⟩,(areCK_app h.2).2⟩
theorem eqL_app:∀ {a b:List Value} {c d:List Value},a.length=b.length->c.length=d.length->eqL (a++c) (b++d)=(eqL a b&&eqL c d)
 | [],[],c,d,_,_=>by simp [eqL]
 | x::a,y::b,c,d,h,h2=>by
  have h:a.length=b.length:=by simpa using h
  rw [List.cons_append,List.cons_append,eqL_cons (by simp [h,h2]),eqL_cons h,eqL_app h h2,Bool.and_assoc]
theorem run_eqFields2 {P:Program} {w:World} {xs ys:Array Value} (d:Nat):∀ (fs:List Field) (ks:List CK) (j:Nat) (a b:List Value),eqFs2 P ks j fs=true->xs.toList.drop j=a->ys.toList.drop j=b->areCK ks a->areCK ks b ->
  (Op.eqFields (d+2) xs ys fs).run P w=.ok (eqL a b) w
 | [],ks,j,a,b,h,hx,hy,ha,hb=>by
  have hk:ks=[]:=by simpa [eqFs2] using h
  subst hk
  cases a with
  | cons x a=>exact ha.elim
  | nil=>cases b with
   | cons y b=>exact hb.elim
   | nil=>simp [Op.eqFields,eqL]
 | f::fs,ks,j,a,b,h,hx,hy,ha,hb=>by
  simp only [eqFs2,Bool.and_eq_true,bne_iff_ne,beq_iff_eq] at h
  obtain ⟨⟨h1,h2⟩,h3⟩:=h
  split at h3
  ·rename_i gs hu
   simp only [Bool.and_eq_true,Bool.not_eq_true',decide_eq_true_eq] at h3
   obtain ⟨⟨⟨⟨g1,g2⟩,g3⟩,g4⟩,g5⟩:=h3
   obtain ⟨inf,e1,e2⟩:=Option.map_eq_some_iff.1 g3
   have hl:(ks.take gs.size).length=gs.size:=by rw [List.length_take];omega
   have hka:areCK (ks.take gs.size++ks.drop gs.size) a:=by rw [List.take_append_drop];exact ha
   have hkb:areCK (ks.take gs.size++ks.drop gs.size) b:=by rw [List.take_append_drop];exact hb
   obtain ⟨a1,a2⟩:=areCK_app hka
   obtain ⟨b1,b2⟩:=areCK_app hkb
   rw [hl] at a1 a2 b1 b2
   have hp:∀ (zs:Array Value) (c:List Value),zs.toList.drop j=c->(part f.type zs f.offset).run P w=.ok (.agg (zs.extract j (j+gs.size))) w:=fun zs c _=>by
    have hs:(sizeOf f.type).run P w=.ok gs.size w:=by simp [sizeOf,typeInfo,e1,e2]
    simp [part,isAgg,run_underlying hu,TypeDesc.isRow,h2,hs]
   have hxs:(xs.extract j (j+gs.size)).toList=a.take gs.size:=by simp [<- hx]
   have hys:(ys.extract j (j+gs.size)).toList=b.take gs.size:=by simp [<- hy]
   have hf:P.fieldsOf f.type=gs:=by simp [Program.fieldsOf,hu]
   have he:(Op.equalIn (d+2) f.type (.agg (xs.extract j (j+gs.size))) (.agg (ys.extract j (j+gs.size)))).run P w=.ok (eqL (a.take gs.size) (b.take gs.size)) w:=by
    rw [run_equalIn_struct w (d+1) f.type _ _ (by rw [hf];exact hu) g1,hf]
    exact run_eqFields d _ 0 gs.toList _ _ g4 (by simpa using hxs) (by simpa using hys) a1 b1
   have la:=areCK_length a1
   have lb:=areCK_length b1
   have la2:=areCK_length a2
   have lb2:=areCK_length b2
   have hab:eqL a b=(eqL (a.take gs.size) (b.take gs.size)&&eqL (a.drop gs.size) (b.drop gs.size)):=by
    rw [<- eqL_app (by omega) (by omega),List.take_append_drop,List.take_append_drop]
   rw [hab]
   simp only [Op.eqFields,h1,ne_eq,not_false_eq_true,if_true,Sem.run_bind,hp xs a hx,hp ys b hy,Result.andThen_ok,he]
   cases hc:eqL (a.take gs.size) (b.take gs.size)
   ·simp
   ·simpa using run_eqFields2 d fs (ks.drop gs.size) (j+gs.size) (a.drop gs.size) (b.drop gs.size) g5 (by rw [<- hx,List.drop_drop]) (by rw [<- hy,List.drop_drop]) a2 b2
  ·cases ks with
   | nil=>cases h3
   | cons k ks =>
    simp only [Bool.and_eq_true] at h3
    obtain ⟨h3,h4⟩:=h3
    cases a with
    | nil=>exact ha.elim
    | cons x a=>cases b with
     | nil=>exact hb.elim
     | cons y b =>
      have gx:xs[j]?=some x:=by
       have:=congrArg (·[0]?) hx
       simpa using this
      have gy:ys[j]?=some y:=by
       have:=congrArg (·[0]?) hy
       simpa using this
      have dx:xs.toList.drop (j+1)=a:=by rw [<- List.drop_drop,hx];rfl
      have dy:ys.toList.drop (j+1)=b:=by rw [<- List.drop_drop,hy];rfl
      have hl:a.length=b.length:=by rw [<- areCK_length ha.2,<- areCK_length hb.2]
      rw [eqL_cons hl]
      simp only [Op.eqFields,h1,ne_eq,not_false_eq_true,if_true,Sem.run_bind,h2,run_part_ck h3 gx,run_part_ck h3 gy,Result.andThen_ok,run_eq_ck h3 ha.1 hb.1 (d+1)]
      cases hc:eqC x y
      ·simp
      ·simpa using run_eqFields2 d fs ks (j+1) a b h4 dx dy ha.2 hb.2
def eqT2 (P:Program) (t:TypeId) (ks:List CK):Bool:=!P.stoodInHeld t&&!P.eqGuardType P.depth t&&match P.underlying t with
 | some (.struct fs)=>eqFs2 P ks 0 fs.toList
 | _=>false
theorem eqT2_ok {P:Program} {t:TypeId} {ks:List CK} (h:eqT2 P t ks=true) (w:World) (xs ys:Array Value) (ex ey:Operand) (hx:areCK ks xs.toList) (hy:areCK ks ys.toList) :
  (do eqGuard .eql t ex ey (.agg xs) (.agg ys);binOp .eql t (.agg xs) (.agg ys):Sem Value).run P w=.ok (.bool (eqL xs.toList ys.toList)) w /\
  (do eqGuard .neq t ex ey (.agg xs) (.agg ys);binOp .neq t (.agg xs) (.agg ys):Sem Value).run P w=.ok (.bool (!eqL xs.toList ys.toList)) w:=by
 simp only [eqT2,Bool.and_eq_true,Bool.not_eq_true'] at h
 obtain ⟨⟨h1,h2⟩,h3⟩:=h
 split at h3
 ·rename_i fs hu
  have hf:P.fieldsOf t=fs:=by simp [Program.fieldsOf,hu]
  have he:(Op.equalIn 10000 t (.agg xs) (.agg ys)).run P w=.ok (eqL xs.toList ys.toList) w:=by
   rw [run_equalIn_struct w 9999 t xs ys (by rw [hf];exact hu) h1,hf]
   exact run_eqFields2 9997 fs.toList ks 0 _ _ h3 rfl rfl hx hy
  constructor
  ·simp only [Sem.run_bind,run_eqGuard_agg _ _ _ _ _ _ _ h2,Result.andThen_ok,run_eql_struct,he]
  ·simp only [Sem.run_bind,run_eqGuard_agg _ _ _ _ _ _ _ h2,Result.andThen_ok,run_neq_struct,he]
 ·cases h3
theorem tabOf_eq2 {P:Program} {t:TypeId} {i:TyI} (h:tabOf P t=some { i with els:=[],eq:=[] }) (he:eqT2 P t i.eq=true):TyOk P t i:=by
 have:=tabOf_ok t _ h
 exact ⟨this.info,fun hne w xs ys ex ey h1 h2=>eqT2_ok he w xs ys ex ey h1 h2,this.desc⟩
end Go.Proofs.AI
namespace Go.Proofs.AI
open Go.RowKit Go.Proofs
set_option linter.unusedVariables false
set_option linter.unusedSimpArgs false
set_option maxRecDepth 100000
def tabM:Tab:=fun t=>if t=39 then some ⟨.st,11,88,[(0,1,false),(1,1,false),(2,1,false),(3,1,false),(4,7,true)],[.int .i64 0,.int .i64 0,.int .i64 0,.int .i64 0,.int .i64 0,.int .i64 0,.int .i64 0,.int .i64 0,.int .i64 0,.int .i64 0,.int .i64 0],[.n .i64,.n .i64,.n .i64,.n .i64,.n .i64,.n .i64,.n .i64,.n .i64,.n .i64,.n .i64,.n .i64],[]⟩ else tab t
theorem tabM_ok:TabOk Tryz.prog tabM:=by
 intro t i h
 unfold tabM at h
 split at h
 ·rename_i ht;subst ht;cases h;exact tabOf_eq2 rfl (by kernel_rfl)
 ·exact tab_ok t i h
theorem msgEq (x y:Msg):(x.kind==y.kind&&(x.to==y.to&&(x.frm==y.frm&&(x.tx==y.tx&&(x.op.kind==y.op.kind&&(x.op.who==y.op.who&&(x.op.inn==y.op.inn&&(x.op.code==y.op.code&&(x.op.sec==y.op.sec&&(x.op.fam==y.op.fam&&x.op.gen==y.op.gen))))))))))=decide (x=y):=by
 rw [Bool.eq_iff_iff]
 simp only [Bool.and_eq_true,beq_iff_eq,decide_eq_true_eq]
 constructor
 ·rintro ⟨h1,h2,h3,h4,h5,h6,h7,h8,h9,h10,h11⟩
  obtain ⟨_,_,_,_,⟨_,_,_,_,_,_,_⟩⟩:=x;obtain ⟨_,_,_,_,⟨_,_,_,_,_,_,_⟩⟩:=y
  simp only at h1 h2 h3 h4 h5 h6 h7 h8 h9 h10 h11
  subst h1 h2 h3 h4 h5 h6 h7 h8 h9 h10 h11
  rfl
 ·rintro rfl;simp
theorem laws_jaMsgs_ok (a:List Msg) (b:List Msg):FunOK Tryz.prog 28 2 [] [(0,k1 (sMsgs a)),(1,k1 (sMsgs b))] (·=[(2,kB (decide (a=b)))]):=by
 refine fun_to (E:=⟨tabM,ctOf [],26,[],[(0,[0,1]),(1,[0,1,10]),(2,[4]),(3,[0,1,5]),(4,[0,1,5,14]),(5,[0,1,5]),(6,[0,1,5,25]),(7,[4]),(8,[4])],[(0,⟨Nat,fun x=>[(0,(k1 (.sh 39 (typ dMsg eMsg a)))),(1,(k1 (.sh 39 (typ dMsg eMsg b)))),(5,(k1 (.n .i64 (x:Int))))]⟩)],[],[],[]⟩) tabM_ok mixed Tryz.func28 rfl Tryz.ntmps28 (rvs:=[.tmp 4]) Tryz.results28 rfl fun hl=>?_
 refine cast (show ((((zi a.length) != zi b.length)=true->false=decide (a=b))/\(((zi a.length) != zi b.length)=false->∃ (pre:Nat->Prop),∃ (μ:Nat->Nat),∃ (x0:Nat),(q_g a a/\q_g b b/\i_0=zi x0)/\pre x0/\∀ (x:Nat),pre x->(decide (zi x<zi a.length)=true->(i_0<=zi x/\zi x<zi a.length)/\(i_0<=zi x/\zi x<zi b.length)/\((if true=true then !((g_Msg a x).kind==(g_Msg b x).kind&&((g_Msg a x).to==(g_Msg b x).to&&((g_Msg a x).frm==(g_Msg b x).frm&&((g_Msg a x).tx==(g_Msg b x).tx&&((g_Msg a x).op.kind==(g_Msg b x).op.kind&&((g_Msg a x).op.who==(g_Msg b x).op.who&&((g_Msg a x).op.inn==(g_Msg b x).op.inn&&((g_Msg a x).op.code==(g_Msg b x).op.code&&((g_Msg a x).op.sec==(g_Msg b x).op.sec&&((g_Msg a x).op.fam==(g_Msg b x).op.fam&&(g_Msg a x).op.gen==(g_Msg b x).op.gen)))))))))) else (g_Msg a x).kind==(g_Msg b x).kind&&((g_Msg a x).to==(g_Msg b x).to&&((g_Msg a x).frm==(g_Msg b x).frm&&((g_Msg a x).tx==(g_Msg b x).tx&&((g_Msg a x).op.kind==(g_Msg b x).op.kind&&((g_Msg a x).op.who==(g_Msg b x).op.who&&((g_Msg a x).op.inn==(g_Msg b x).op.inn&&((g_Msg a x).op.code==(g_Msg b x).op.code&&((g_Msg a x).op.sec==(g_Msg b x).op.sec&&((g_Msg a x).op.fam==(g_Msg b x).op.fam&&(g_Msg a x).op.gen==(g_Msg b x).op.gen))))))))))=true->false=decide (a=b))/\((if true=true then !((g_Msg a x).kind==(g_Msg b x).kind&&((g_Msg a x).to==(g_Msg b x).to&&((g_Msg a x).frm==(g_Msg b x).frm&&((g_Msg a x).tx==(g_Msg b x).tx&&((g_Msg a x).op.kind==(g_Msg b x).op.kind&&((g_Msg a x).op.who==(g_Msg b x).op.who&&((g_Msg a x).op.inn==(g_Msg b x).op.inn&&((g_Msg a x).op.code==(g_Msg b x).op.code&&((g_Msg a x).op.sec==(g_Msg b x).op.sec&&((g_Msg a x).op.fam==(g_Msg b x).op.fam&&(g_Msg a x).op.gen==(g_Msg b x).op.gen)))))))))) else (g_Msg a x).kind==(g_Msg b x).kind&&((g_Msg a x).to==(g_Msg b x).to&&((g_Msg a x).frm==(g_Msg b x).frm&&((g_Msg a x).tx==(g_Msg b x).tx&&((g_Msg a x).op.kind==(g_Msg b x).op.kind&&((g_Msg a x).op.who==(g_Msg b x).op.who&&((g_Msg a x).op.inn==(g_Msg b x).op.inn&&((g_Msg a x).op.code==(g_Msg b x).op.code&&((g_Msg a x).op.sec==(g_Msg b x).op.sec&&((g_Msg a x).op.fam==(g_Msg b x).op.fam&&(g_Msg a x).op.gen==(g_Msg b x).op.gen))))))))))=false->∃ (y:Nat),(q_g a a/\q_g b b/\wr_ ((zi x)+i_1)=zi y)/\pre y/\μ y<μ x))/\(decide (zi x<zi a.length)=false->true=decide (a=b))))=_ by kernel_rfl) ?_
 delta i_0 i_1 wr_ zi t_g q_g g_Msg
 have hx:a.length<=9223372036854775807:=hl.1 (.c (sMsgs a)) (by simp)
 simp only [zza,zzb,true_and,and_true,and_self,ne_eq,cI_app,cWrtO_app,cWrtS_app,cWrtO_1,cItemO_1,opr_ex,zcast,frz_nil,nil_map,Option.getD_none,Option.getD_some]
 simp only [msgEq,if_true]
 refine ⟨fun h=>?_,fun h=>?_⟩
 ·exact (decide_eq_false fun he=>h (by rw [he])).symm
 have hlen:=len_ne h
 refine ⟨fun i=>i<=a.length/\∀ j,j<i->a.getD j dMsg=b.getD j dMsg,⟨by omega,fun j hj=>absurd hj (Nat.not_lt_zero _)⟩,fun i=>a.length-i,fun i hp=>?_⟩
 obtain ⟨h1,h2⟩:=hp
 refine ⟨fun hlt=>⟨by omega,hlt,by omega,by omega,fun e=>?_,fun e=>⟨i+1,wrapN (by omega),⟨by omega,below_succ h2 (by simpa using e)⟩,by simp only;omega⟩⟩,fun hge=>?_⟩
 ·have e:¬ a.getD i dMsg=b.getD i dMsg:=by simpa using e
  exact (decide_eq_false fun he=>e (by rw [he])).symm
 ·exact (decide_eq_true (ext_getD (d:=dMsg) hlen fun j hj=>h2 j (by omega))).symm
def laws_jaMsgs_c:Con Tryz.prog:=con0 [.lend,.lend] fun b:List Msg×List Msg=>laws_jaMsgs_ok (b.1) (b.2)
end Go.Proofs.AI
namespace Go.Proofs.AI
set_option linter.unusedVariables false
set_option linter.unusedSimpArgs false
theorem ofN_app (ns:List Note) (n:Note) (tx:Int):ofN (ns++[n]) tx=if n.tx=tx/\n.kind≠4 then n.kind else ofN ns tx:=by
 simp only [ofN,List.foldl_append,List.foldl_cons,List.foldl_nil,ofS]
theorem disk_add {d:Disk} {n:Note} {s:Int} (hd:diskB d=true) (hn:noteB n=true) (hl:d.notes.length≠120) (hs:s=d.safe∨s=(d.notes.length:Int)+1):diskB ⟨d.notes++[n],s⟩=true:=by
 obtain ⟨_,g2,g3,g4⟩:=diskB_small hd
 simp only [diskB,List.length_append,List.length_singleton,Bool.and_eq_true,decide_eq_true_eq,List.all_append,List.all_cons,List.all_nil,Bool.and_true,hn,and_true]
 refine ⟨⟨by omega,?_⟩,List.all_eq_true.2 g4⟩
 simp only [inR,Bool.and_eq_true,decide_eq_true_eq]
 omega
theorem msg_tx {m:Msg} (h:msgB m=true):inR m.tx 0 29=true:=by
 simp only [msgB,Bool.and_eq_true] at h;exact h.1
theorem msg_back {k p tx:Int} (hk:k=4∨k=5∨k=6) (hp:inR p 1 3=true) (ht:inR tx 0 29=true):msgB (msgF k p tx)=true:=by
 simp only [msgB,msgF,ht]
 rcases hk with rfl | rfl | rfl<;>simp [hp]<;>rfl
theorem hear_else {p:Int} {d:Disk} {m:Msg} (h:(inR p 1 3&&diskB d&&msgB m&&m.to==p)=false):hearD p d m=(⟨[],0⟩,[]):=by simp only [hearD,h];rfl
end Go.Proofs.AI
namespace Go.Proofs.AI
open Go.RowKit Go.Proofs
set_option linter.unusedVariables false
set_option linter.unusedSimpArgs false
set_option maxRecDepth 100000
theorem laws_FnPlcSays_ok (l:List Int) (hpre:okU l):FunOK Tryz.prog 6 1 [] [(0,k1 (sU l))] (·=[(1,kB true)]):=by
 refine fun_to (E:=⟨tab,ctOf [spec_PlcHear_c,impl_PlcHear_c,spec_DrawPlcHear_c,laws_jaDisk_c,spec_DiskOk_c,spec_MsgOk_c,laws_jaOk_c,impl_DiskOf_c,laws_jaMsgs_c,impl_MsgOk_c],159,[],[(0,[0]),(1,[0,14]),(2,[2]),(3,[3,4,5]),(4,[3,4,5,6,7,21,25,27]),(5,[3,4,5,6,7,9,21,25,27,28,32,34]),(6,[3,4,5,6,7,21,25,27,38]),(7,[2]),(8,[3,4,5,6,7,21,25,27,60]),(9,[2]),(10,[3,4,5,6,7,21,25,27,69]),(11,[2]),(12,[3,4,5,6,7,21,25,27,88]),(13,[2]),(14,[5,6,7,21,25,27,123]),(15,[2]),(16,[5,6,7,21,25,27,126]),(17,[2]),(18,[7,10,21,25,27]),(19,[7,11,21,25,27]),(20,[2])],[],[(4,[(4,[25])]),(5,[(4,[32])]),(6,[(1000001,[])]),(9,[(1000000,[])]),(11,[(1000000,[])]),(13,[(1000000,[])]),(17,[(1000000,[])]),(20,[(1000008,[])])],[],[]⟩) tab_ok mixed Tryz.func6 rfl Tryz.ntmps6 (rvs:=[.tmp 2]) Tryz.results6 rfl fun hl=>?_
 refine cast (show (let k_1:Prop:=∃ (b:Unit),True/\true=true;(decide ((zi l.length)>i_1048576)=true->true=true)/\(decide ((zi l.length)>i_1048576)=false->∃ (b:List Int),let k_3:Prop:=((hearM3 (List.take n_2000 b)).1.kind==i_2)=true;let k_2:Prop:=((hearM3 (List.take n_2000 b)).1.kind==i_2)=false;q_U l b/\okU b/\(∃ (b_1:Int×Disk×Msg),let k_16:Prop:=((zi (hearD b_1.1 b_1.2.1 b_1.2.2).2.length)==i_0)=true;let k_15:Prop:=((zi (hearD b_1.1 b_1.2.1 b_1.2.2).2.length) != i_1)=false;let k_14:Prop:=i_0<=i_0/\i_0<(zi (hearD b_1.1 b_1.2.1 b_1.2.2).2.length);let k_13:Prop:=((zi (hearD b_1.1 b_1.2.1 b_1.2.2).2.length) != i_1)=true->false=true;let k_12:Prop:=((zi (hearD b_1.1 b_1.2.1 b_1.2.2).2.length)==i_0)=false->false=true;let k_11:Prop:=(((hearD b_1.1 b_1.2.1 b_1.2.2).2.getD (Int.toNat i_0) dMsg).frm != hearP (List.take n_2000 b))=false;let k_10:Prop:=(((hearD b_1.1 b_1.2.1 b_1.2.2).2.getD (Int.toNat i_0) dMsg).tx != (hearM3 (List.take n_2000 b)).1.tx)=false;let k_9:Prop:=(((hearD b_1.1 b_1.2.1 b_1.2.2).2.getD (Int.toNat i_0) dMsg).frm != hearP (List.take n_2000 b))=true->false=true;let k_8:Prop:=(((hearD b_1.1 b_1.2.1 b_1.2.2).2.getD (Int.toNat i_0) dMsg).tx != (hearM3 (List.take n_2000 b)).1.tx)=true->false=true;let k_7:Prop:=(k_16->k_1)/\k_12;let k_6:Prop:=k_3->k_14/\(((hearD b_1.1 b_1.2.1 b_1.2.2).2.getD (Int.toNat i_0) dMsg).kind==i_6)=true;let k_5:Prop:=k_14/\((if false=true then !(((hearD b_1.1 b_1.2.1 b_1.2.2).2.getD (Int.toNat i_0) dMsg).kind==i_4)==true else (((hearD b_1.1 b_1.2.1 b_1.2.2).2.getD (Int.toNat i_0) dMsg).kind==i_4)==true)=true->k_14/\(if false=true then !(((hearD b_1.1 b_1.2.1 b_1.2.2).2.getD (Int.toNat i_0) dMsg).kind==i_5)==!true else (((hearD b_1.1 b_1.2.1 b_1.2.2).2.getD (Int.toNat i_0) dMsg).kind==i_5)==!true)=true)/\((if false=true then !(((hearD b_1.1 b_1.2.1 b_1.2.2).2.getD (Int.toNat i_0) dMsg).kind==i_4)==true else (((hearD b_1.1 b_1.2.1 b_1.2.2).2.getD (Int.toNat i_0) dMsg).kind==i_4)==true)=false->false=true);let k_4:Prop:=(k_15->k_14/\(k_10->k_14/\(k_11->k_14/\(∃ (b_6:Msg),(((hearD b_1.1 b_1.2.1 b_1.2.2).2.getD (Int.toNat i_0) dMsg).kind=b_6.kind/\((hearD b_1.1 b_1.2.1 b_1.2.2).2.getD (Int.toNat i_0) dMsg).to=b_6.to/\((hearD b_1.1 b_1.2.1 b_1.2.2).2.getD (Int.toNat i_0) dMsg).frm=b_6.frm/\((hearD b_1.1 b_1.2.1 b_1.2.2).2.getD (Int.toNat i_0) dMsg).tx=b_6.tx/\((hearD b_1.1 b_1.2.1 b_1.2.2).2.getD (Int.toNat i_0) dMsg).op.kind=b_6.op.kind/\((hearD b_1.1 b_1.2.1 b_1.2.2).2.getD (Int.toNat i_0) dMsg).op.who=b_6.op.who/\((hearD b_1.1 b_1.2.1 b_1.2.2).2.getD (Int.toNat i_0) dMsg).op.inn=b_6.op.inn/\((hearD b_1.1 b_1.2.1 b_1.2.2).2.getD (Int.toNat i_0) dMsg).op.code=b_6.op.code/\((hearD b_1.1 b_1.2.1 b_1.2.2).2.getD (Int.toNat i_0) dMsg).op.sec=b_6.op.sec/\((hearD b_1.1 b_1.2.1 b_1.2.2).2.getD (Int.toNat i_0) dMsg).op.fam=b_6.op.fam/\((hearD b_1.1 b_1.2.1 b_1.2.2).2.getD (Int.toNat i_0) dMsg).op.gen=b_6.op.gen)/\((!msgB b_6)=true->false=true)/\((!msgB b_6)=false->k_6/\(k_2->∃ (b_7:Disk×Int),((cnRs (frozenRs (typ dNote eNoteO (hearD b_1.1 b_1.2.1 b_1.2.2).1.notes))=t_e b_7.1.notes/\(hearD b_1.1 b_1.2.1 b_1.2.2).1.safe=b_7.1.safe)/\(hearM3 (List.take n_2000 b)).1.tx=b_7.2)/\(((if diskB b_7.1=true then ofN b_7.1.notes b_7.2 else i_0)==i_1)=false->k_14/\((if false=true then !(((hearD b_1.1 b_1.2.1 b_1.2.2).2.getD (Int.toNat i_0) dMsg).kind==i_4)==((if diskB b_7.1=true then ofN b_7.1.notes b_7.2 else i_0)==i_2) else (((hearD b_1.1 b_1.2.1 b_1.2.2).2.getD (Int.toNat i_0) dMsg).kind==i_4)==((if diskB b_7.1=true then ofN b_7.1.notes b_7.2 else i_0)==i_2))=true->k_14/\(if false=true then !(((hearD b_1.1 b_1.2.1 b_1.2.2).2.getD (Int.toNat i_0) dMsg).kind==i_5)==!(if diskB b_7.1=true then ofN b_7.1.notes b_7.2 else i_0)==i_2 else (((hearD b_1.1 b_1.2.1 b_1.2.2).2.getD (Int.toNat i_0) dMsg).kind==i_5)==!(if diskB b_7.1=true then ofN b_7.1.notes b_7.2 else i_0)==i_2)=true)/\((if false=true then !(((hearD b_1.1 b_1.2.1 b_1.2.2).2.getD (Int.toNat i_0) dMsg).kind==i_4)==((if diskB b_7.1=true then ofN b_7.1.notes b_7.2 else i_0)==i_2) else (((hearD b_1.1 b_1.2.1 b_1.2.2).2.getD (Int.toNat i_0) dMsg).kind==i_4)==((if diskB b_7.1=true then ofN b_7.1.notes b_7.2 else i_0)==i_2))=false->false=true))/\(((if diskB b_7.1=true then ofN b_7.1.notes b_7.2 else i_0)==i_1)=true->k_5)))))/\k_9)/\k_8)/\k_13;(hearP (List.take n_2000 b)=b_1.1/\(q_e (hearDk (List.take n_2000 b)).1.notes b_1.2.1.notes/\(hearDk (List.take n_2000 b)).1.safe=b_1.2.1.safe)/\(hearM3 (List.take n_2000 b)).1.kind=b_1.2.2.kind/\(hearM3 (List.take n_2000 b)).1.to=b_1.2.2.to/\(hearM3 (List.take n_2000 b)).1.frm=b_1.2.2.frm/\(hearM3 (List.take n_2000 b)).1.tx=b_1.2.2.tx/\(hearM3 (List.take n_2000 b)).1.op.kind=b_1.2.2.op.kind/\(hearM3 (List.take n_2000 b)).1.op.who=b_1.2.2.op.who/\(hearM3 (List.take n_2000 b)).1.op.inn=b_1.2.2.op.inn/\(hearM3 (List.take n_2000 b)).1.op.code=b_1.2.2.op.code/\(hearM3 (List.take n_2000 b)).1.op.sec=b_1.2.2.op.sec/\(hearM3 (List.take n_2000 b)).1.op.fam=b_1.2.2.op.fam/\(hearM3 (List.take n_2000 b)).1.op.gen=b_1.2.2.op.gen)/\(∃ (b_2:Int×Disk×Msg),(hearP (List.take n_2000 b)=b_2.1/\(q_e (hearDk (List.take n_2000 b)).1.notes b_2.2.1.notes/\(hearDk (List.take n_2000 b)).1.safe=b_2.2.1.safe)/\(hearM3 (List.take n_2000 b)).1.kind=b_2.2.2.kind/\(hearM3 (List.take n_2000 b)).1.to=b_2.2.2.to/\(hearM3 (List.take n_2000 b)).1.frm=b_2.2.2.frm/\(hearM3 (List.take n_2000 b)).1.tx=b_2.2.2.tx/\(hearM3 (List.take n_2000 b)).1.op.kind=b_2.2.2.op.kind/\(hearM3 (List.take n_2000 b)).1.op.who=b_2.2.2.op.who/\(hearM3 (List.take n_2000 b)).1.op.inn=b_2.2.2.op.inn/\(hearM3 (List.take n_2000 b)).1.op.code=b_2.2.2.op.code/\(hearM3 (List.take n_2000 b)).1.op.sec=b_2.2.2.op.sec/\(hearM3 (List.take n_2000 b)).1.op.fam=b_2.2.2.op.fam/\(hearM3 (List.take n_2000 b)).1.op.gen=b_2.2.2.op.gen)/\(∃ (b_3:y_43),(cnRs (frozenRs (typ dMsg eMsg (hearD b_1.1 b_1.2.1 b_1.2.2).2))=t_g b_3.1/\cnRs (frozenRs (typ dMsg eMsg (hearD b_2.1 b_2.2.1 b_2.2.2).2))=t_g b_3.2)/\((!decide (b_3.1=b_3.2))=true->false=true)/\((!decide (b_3.1=b_3.2))=false->(decide (hearP (List.take n_2000 b)<i_1)=false->(decide (hearP (List.take n_2000 b)>i_3)=false->∃ (b_4:Disk),(q_e (hearDk (List.take n_2000 b)).1.notes b_4.notes/\(hearDk (List.take n_2000 b)).1.safe=b_4.safe)/\((!diskB b_4)=false->∃ (b_5:Msg),((hearM3 (List.take n_2000 b)).1.kind=b_5.kind/\(hearM3 (List.take n_2000 b)).1.to=b_5.to/\(hearM3 (List.take n_2000 b)).1.frm=b_5.frm/\(hearM3 (List.take n_2000 b)).1.tx=b_5.tx/\(hearM3 (List.take n_2000 b)).1.op.kind=b_5.op.kind/\(hearM3 (List.take n_2000 b)).1.op.who=b_5.op.who/\(hearM3 (List.take n_2000 b)).1.op.inn=b_5.op.inn/\(hearM3 (List.take n_2000 b)).1.op.code=b_5.op.code/\(hearM3 (List.take n_2000 b)).1.op.sec=b_5.op.sec/\(hearM3 (List.take n_2000 b)).1.op.fam=b_5.op.fam/\(hearM3 (List.take n_2000 b)).1.op.gen=b_5.op.gen)/\((!msgB b_5)=false->(((hearM3 (List.take n_2000 b)).1.to != hearP (List.take n_2000 b))=true->k_7)/\(((hearM3 (List.take n_2000 b)).1.to != hearP (List.take n_2000 b))=false->(((hearM3 (List.take n_2000 b)).1.kind==i_3)=true->k_16)/\(((hearM3 (List.take n_2000 b)).1.kind==i_3)=false->(k_3->(((zi (hearDk (List.take n_2000 b)).1.notes.length)==i_120)=true->∃ (b_6:Disk×Int),((q_e (hearDk (List.take n_2000 b)).1.notes b_6.1.notes/\(hearDk (List.take n_2000 b)).1.safe=b_6.1.safe)/\(hearM3 (List.take n_2000 b)).1.tx=b_6.2)/\(((if diskB b_6.1=true then ofN b_6.1.notes b_6.2 else i_0)==i_1)=true->(k_16->∃ (b_7:Disk×Disk),((cnRs (frozenRs (typ dNote eNoteO (hearD b_1.1 b_1.2.1 b_1.2.2).1.notes))=t_e b_7.1.notes/\(hearD b_1.1 b_1.2.1 b_1.2.2).1.safe=b_7.1.safe)/\q_e (hearDk (List.take n_2000 b)).1.notes b_7.2.notes/\(hearDk (List.take n_2000 b)).1.safe=b_7.2.safe)/\decide (b_7.1=b_7.2)=true)/\k_12)/\(((if diskB b_6.1=true then ofN b_6.1.notes b_6.2 else i_0)==i_1)=false->(k_15->k_14/\(k_10->k_14/\(k_11->k_14/\(∃ (b_7:Msg),(((hearD b_1.1 b_1.2.1 b_1.2.2).2.getD (Int.toNat i_0) dMsg).kind=b_7.kind/\((hearD b_1.1 b_1.2.1 b_1.2.2).2.getD (Int.toNat i_0) dMsg).to=b_7.to/\((hearD b_1.1 b_1.2.1 b_1.2.2).2.getD (Int.toNat i_0) dMsg).frm=b_7.frm/\((hearD b_1.1 b_1.2.1 b_1.2.2).2.getD (Int.toNat i_0) dMsg).tx=b_7.tx/\((hearD b_1.1 b_1.2.1 b_1.2.2).2.getD (Int.toNat i_0) dMsg).op.kind=b_7.op.kind/\((hearD b_1.1 b_1.2.1 b_1.2.2).2.getD (Int.toNat i_0) dMsg).op.who=b_7.op.who/\((hearD b_1.1 b_1.2.1 b_1.2.2).2.getD (Int.toNat i_0) dMsg).op.inn=b_7.op.inn/\((hearD b_1.1 b_1.2.1 b_1.2.2).2.getD (Int.toNat i_0) dMsg).op.code=b_7.op.code/\((hearD b_1.1 b_1.2.1 b_1.2.2).2.getD (Int.toNat i_0) dMsg).op.sec=b_7.op.sec/\((hearD b_1.1 b_1.2.1 b_1.2.2).2.getD (Int.toNat i_0) dMsg).op.fam=b_7.op.fam/\((hearD b_1.1 b_1.2.1 b_1.2.2).2.getD (Int.toNat i_0) dMsg).op.gen=b_7.op.gen)/\((!msgB b_7)=true->false=true)/\((!msgB b_7)=false->k_6/\(k_2->∃ (b_8:Disk×Int),((cnRs (frozenRs (typ dNote eNoteO (hearD b_1.1 b_1.2.1 b_1.2.2).1.notes))=t_e b_8.1.notes/\(hearD b_1.1 b_1.2.1 b_1.2.2).1.safe=b_8.1.safe)/\(hearM3 (List.take n_2000 b)).1.tx=b_8.2)/\(((if diskB b_8.1=true then ofN b_8.1.notes b_8.2 else i_0)==i_1)=false->k_14/\((if false=true then !(((hearD b_1.1 b_1.2.1 b_1.2.2).2.getD (Int.toNat i_0) dMsg).kind==i_4)==((if diskB b_8.1=true then ofN b_8.1.notes b_8.2 else i_0)==i_2) else (((hearD b_1.1 b_1.2.1 b_1.2.2).2.getD (Int.toNat i_0) dMsg).kind==i_4)==((if diskB b_8.1=true then ofN b_8.1.notes b_8.2 else i_0)==i_2))=true->k_14/\(if false=true then !(((hearD b_1.1 b_1.2.1 b_1.2.2).2.getD (Int.toNat i_0) dMsg).kind==i_5)==!(if diskB b_8.1=true then ofN b_8.1.notes b_8.2 else i_0)==i_2 else (((hearD b_1.1 b_1.2.1 b_1.2.2).2.getD (Int.toNat i_0) dMsg).kind==i_5)==!(if diskB b_8.1=true then ofN b_8.1.notes b_8.2 else i_0)==i_2)=true)/\((if false=true then !(((hearD b_1.1 b_1.2.1 b_1.2.2).2.getD (Int.toNat i_0) dMsg).kind==i_4)==((if diskB b_8.1=true then ofN b_8.1.notes b_8.2 else i_0)==i_2) else (((hearD b_1.1 b_1.2.1 b_1.2.2).2.getD (Int.toNat i_0) dMsg).kind==i_4)==((if diskB b_8.1=true then ofN b_8.1.notes b_8.2 else i_0)==i_2))=false->false=true))/\(((if diskB b_8.1=true then ofN b_8.1.notes b_8.2 else i_0)==i_1)=true->k_5)))))/\k_9)/\k_8)/\k_13))/\(((zi (hearDk (List.take n_2000 b)).1.notes.length)==i_120)=false->k_4))/\(k_2->k_4))))/\((!msgB b_5)=true->k_7))/\((!diskB b_4)=true->k_7))/\(decide (hearP (List.take n_2000 b)>i_3)=true->k_7))/\(decide (hearP (List.take n_2000 b)<i_1)=true->k_7)))))))=_ by kernel_rfl) ?_
 delta i_0 i_1 i_5 i_2 i_3 i_4 zi t_U q_U n_2000 i_6 t_e q_e i_120 t_g i_1048576 y_43
 simp (config:={ maxSteps:=2000000 }) only [zza,zzb,true_and,and_true,and_self,ne_eq,cI_app,cWrtO_app,cWrtS_app,cWrtO_1,cItemO_1,opr_ex,zcast,frz_nil,nil_map,Option.getD_none,Option.getD_some]
 generalize hearP (List.take 2000 l)=p
 generalize (hearDk (List.take 2000 l)).1=d
 generalize (hearM3 (List.take 2000 l)).1=m
 have bad:(inR p 1 3&&diskB d&&msgB m&&m.to==p)=false->hearD p d m=(⟨[],0⟩,[]):=hear_else
 by_cases h1:p<1
 ·simp [h1,hpre,bad (by simp [inR];omega)]
 by_cases h2:3<p
 ·simp [h1,h2,hpre,bad (by simp [inR];omega)]
 have hp:inR p 1 3=true:=by simp only [inR,Bool.and_eq_true,decide_eq_true_eq];omega
 rcases Bool.eq_false_or_eq_true (diskB d) with hd | hd
 rotate_left
 ·simp [h1,h2,hd,hpre,bad (by simp [hd])]
 rcases Bool.eq_false_or_eq_true (msgB m) with hm | hm
 rotate_left
 ·simp [h1,h2,hd,hm,hpre,bad (by simp [hm])]
 by_cases ht:m.to=p
 rotate_left
 ·simp [h1,h2,hd,hm,ht,hpre,bad (by simp [ht])]
 have tx:=msg_tx hm
 have b4:=msg_back (k:=4) (.inl rfl) hp tx
 have b5:=msg_back (k:=5) (.inr (.inl rfl)) hp tx
 have b6:=msg_back (k:=6) (.inr (.inr rfl)) hp tx
 cases hear_cases hp hd hm ht with
 | had k o e=>rcases o with o | o<;>simp [h1,h2,hd,hm,ht,hpre,k,o,e,b4]
 | cant k o _ e =>
  have o1:¬ ofN d.notes m.tx=1:=fun h=>o (.inl h)
  have o2:¬ ofN d.notes m.tx=2:=fun h=>o (.inr h)
  simp [h1,h2,hd,hm,ht,hpre,k,o1,o2,e,b5]
 | can P k o hP ok hl hk hn e =>
  have hX:=disk_add hd hn (by omega) (.inr rfl)
  have ho:ofN (d.notes++[⟨1,m.tx,P.locks,P.writes⟩]) m.tx=1:=by rw [ofN_app];simp
  simp [h1,h2,hd,hm,ht,hpre,k,o,e,b4,hX,ho]
 | full k o f e=>simp [h1,h2,hd,hm,ht,hpre,k,o,f,e]
 | yes k o f e =>
  have f':¬ (d.notes.length:Int)=120:=by omega
  simp [h1,h2,hd,hm,ht,hpre,k,o,f',e,b6]
 | knew k o e =>
  by_cases f:d.notes.length=120<;>simp [h1,h2,hd,hm,ht,hpre,k,o,f,e,b6]
 | no k o f e=>simp [h1,h2,hd,hm,ht,hpre,k,o,f,e]
 | vain k o e=>simp [h1,h2,hd,hm,ht,hpre,k,e]
end Go.Proofs.AI
