/- What the function of this law does, in data. Conditions: none. -/
import Derived.KernelRfl
import Derived.IntWalk
import Derived.Test.YthnejjamalmhgaaGreatDoorProg
import Derived.Test.YthnejjamalmhgaaGreatDoorK05
namespace Go.Proofs.AI
open Go.RowKit Go.Proofs
set_option linter.unusedVariables false
set_option linter.unusedSimpArgs false
set_option maxRecDepth 100000
abbrev y_43:Type:=List Msg×List Msg
end Go.Proofs.AI
namespace Go.Proofs.AI
open Go.RowKit Go.Proofs
set_option linter.unusedVariables false
set_option linter.unusedSimpArgs false
set_option maxRecDepth 100000
theorem laws_jaIn_ok (xs:List Int) (n:Int):FunOK Tryz.prog 36 2 [] [(0,k1 (sI xs)),(1,kI n)] (·=[(2,kB (xs.any fun x=>x==n))]):=by
 refine fun_to (E:=⟨tab,ctOf [],18,[],[(0,[0,1]),(1,[0,1,5]),(2,[0,1,5,9]),(3,[0,1,5]),(4,[0,1,5,17]),(5,[4]),(6,[4])],[(0,⟨Nat,fun x=>[(0,(k1 (.sh 3 (typ (0:Int) eI xs)))),(1,(k1 (.n .i64 n))),(5,(k1 (.n .i64 (x:Int))))]⟩)],[],[],[]⟩) tab_ok mixed Tryz.func36 rfl Tryz.ntmps36 (rvs:=[.tmp 4]) Tryz.results36 rfl fun hl=>?_
 refine cast (show (∃ (pre:Nat->Prop),∃ (μ:Nat->Nat),∃ (x0:Nat),(q_I xs xs/\n=n/\i_0=zi x0)/\pre x0/\∀ (x:Nat),pre x->(decide (zi x<zi xs.length)=true->(i_0<=zi x/\zi x<zi xs.length)/\((g_Int xs x==n)=true->true=xs.any fun (x:Int)=>x==n)/\((g_Int xs x==n)=false->∃ (y:Nat),(q_I xs xs/\n=n/\wr_ ((zi x)+i_1)=zi y)/\pre y/\μ y<μ x))/\(decide (zi x<zi xs.length)=false->false=xs.any fun (x:Int)=>x==n))=_ by kernel_rfl) ?_
 delta i_0 i_1 wr_ g_Int zi t_I q_I
 have hx:xs.length<=9223372036854775807:=hl.1 _ (List.mem_singleton.2 rfl)
 simp only [zza,true_and,and_true,and_self,ne_eq,cI_app,cWrtO_app,cWrtS_app,cWrtO_1,cItemO_1,opr_ex,zcast,frz_nil,nil_map]
 refine ⟨fun i=>i<=xs.length/\∀ j,j<i->(xs.getD j 0==n)=false,⟨by omega,fun j hj=>absurd hj (Nat.not_lt_zero _)⟩,fun i=>xs.length-i,fun i hp=>?_⟩
 obtain ⟨h1,h2⟩:=hp
 refine ⟨fun hlt=>⟨by omega,hlt,fun e=>?_,fun e=>⟨i+1,wrapN (by omega),⟨by omega,below_succ h2 (by simpa using e)⟩,by simp only;omega⟩⟩,fun hge=>?_⟩
 ·exact (any_hit (p:=fun x=>x==n) (d:=0) (i:=i) (by omega) (by simpa using e)).symm
 ·exact (any_miss (p:=fun x=>x==n) (d:=0) fun j hj=>h2 j (by omega)).symm
def laws_jaIn_c:Con Tryz.prog:=con0 [.lend,.lend] fun b:List Int×Int=>laws_jaIn_ok (b.1) (b.2)
end Go.Proofs.AI
namespace Go.Proofs.AI
open Go.RowKit Go.Proofs
set_option linter.unusedVariables false
set_option linter.unusedSimpArgs false
set_option maxRecDepth 100000
theorem impl_DiskOpen_ok (d:Disk):FunOK Tryz.prog 37 1 [] [(0,kDiskS d)] (·=[(1,k1 (oI (openD d)))]):=by
 refine fun_to (E:=⟨tab,ctOf [impl_DiskOk_c,impl_LogDisk_open_c],8,[],[(0,[1,7]),(1,[1,5,7]),(2,[2,7]),(3,[2,7])],[],[],[],[]⟩) tab_ok mixed Tryz.func37 rfl Tryz.ntmps37 (rvs:=[.tmp 2]) Tryz.results37 rfl fun hl=>?_
 refine cast (show (∃ (b:Disk),(q_e d.notes b.notes/\d.safe=b.safe)/\((!diskB b)=true->(openD d).length=n_0)/\((!diskB b)=false->∃ (b:Disk),(q_e d.notes b.notes/\d.safe=b.safe)/\b.notes.length<=n_1000/\q_I (openK b.notes b.notes.length) (openD d)))=_ by kernel_rfl) ?_
 delta t_I q_I n_0 n_1000 t_e q_e
 simp only [zza,zzb,true_and,and_true,and_self,ne_eq,cI_app,cWrtO_app,cWrtS_app,cWrtO_1,cItemO_1,opr_ex,zcast,frz_nil,nil_map,Option.getD_none,Option.getD_some]
 refine ⟨fun h=>?_,fun h=>?_⟩
 ·simp at h;simp [openD,h]
 simp at h
 obtain ⟨g1,g2,g3,g4⟩:=diskB_small h
 simp only [openD,h,if_true]
 exact ⟨by omega,trivial⟩
def impl_DiskOpen_c:Con Tryz.prog:=con0 [.lend] fun b:Disk=>impl_DiskOpen_ok b
end Go.Proofs.AI
namespace Go.Proofs.AI
open Go.RowKit Go.Shelf Go.Proofs
set_option linter.unusedVariables false
set_option linter.unusedSimpArgs false
set_option maxRecDepth 100000
set_option maxHeartbeats 1000000 in
theorem clip_in (A:Option Addr) (len cap:Nat) (hcap:len<=cap) (hm:len<=9223372036854775807) (w:World) :
  Calls Tryz.prog 75 #[.slice A len cap] w fun e w'=>e=.returned (.slice A len len)/\w'=w:=by
 refine calls_of_wp Tryz.func75 rfl ?_
 simp only [Tryz.ntmps75,List.size_toArray,List.length_cons,List.length_nil,Nat.reduceAdd,Nat.reduceSub,Array.replicate_succ,Array.replicate_zero,List.push_toArray,List.append_toArray,List.nil_append,List.cons_append]
 go_wp2
 go_ret
 exact ⟨rfl,rfl⟩
theorem clip_ok (ns:List Note):FunOK Tryz.prog 75 1 [] [(0,k1 (sNotes ns))] (·=[(1,k1 (sNotes ns))]):=by
 refine FunOK.hand Tryz.func75 rfl rfl (by simp) fun args w I U B hs hI hk=>?_
 obtain ⟨a1,a2⟩:=hk 0 (k1 (sNotes ns)) (by simp [mk,up])
 obtain ⟨G0,hn⟩:=a2 0 _ rfl
 have hone:=hn.one
 obtain ⟨A,c,us,hv,h1,h2,h3,h4,h5⟩:=hn.sh_inv
 have hargs:args=#[.slice A ns.length c]:=by
  have q0:args.getD 0 undef=U 0 0:=a1.2.2
  refine Array.ext (by simpa using hs) fun j h1 h2=>?_
  have:j=0:=by
           have:j<1:=by simpa using h2
           omega
  subst this
  rw [Array.getD_eq_getD_getElem?,Array.getElem?_eq_getElem h1,hv] at q0;exact q0
 subst hargs
 refine Calls.mono (clip_in A ns.length c h1 h2 w) fun e w' ⟨g1,g2⟩=>?_
 subst g2
 refine ⟨_,fun _=>.slice A ns.length ns.length,g1,Below.refl _ _,⟨fun _ _=>rfl,rfl,rfl⟩,fun o x hx=>?_⟩
 cases o with
 | zero=>simp at hx;subst hx;exact ⟨_,rfl,.sh us (Nat.le_refl _) h2 h3 h4 h5⟩
 | succ o=>simp at hx
def clip_c:Con Tryz.prog:=con0 [.lend] fun b:List Note=>clip_ok b
end Go.Proofs.AI
namespace Go.Proofs.AI
open Go.RowKit Go.Proofs
set_option linter.unusedVariables false
set_option linter.unusedSimpArgs false
set_option maxRecDepth 100000
theorem impl_DiskFall_ok (d:Disk) (keep:Int):FunOK Tryz.prog 35 2 [] [(0,kDiskS d),(1,kI keep)] (·=[(2,kDiskS (fallD d keep))]):=by
 refine fun_to (E:=⟨tab,ctOf [impl_DiskOk_c,impl_LogDisk_copied_c,clip_c],37,[],[(0,[1,2,4,5,9,36]),(1,[1,2,4,5,8,9,36]),(2,[4,5,9,36]),(3,[1,2,4,5,9,36]),(4,[4,5,9,36]),(5,[4,5,9,36]),(6,[4,5,9,36]),(7,[4,5,9,36])],[],[(2,[(1,[9])]),(4,[(0,[5])])],[],[]⟩) tab_ok mixed Tryz.func35 rfl Tryz.ntmps35 (rvs:=[.cell 4 32]) Tryz.results35 rfl fun hl=>?_
 refine cast (show (∃ (b:Disk),(q_e d.notes b.notes/\d.safe=b.safe)/\((!diskB b)=true->cnRs (frozenRs nilR)=t_e (fallD d keep).notes/\i_0=(fallD d keep).safe)/\((!diskB b)=false->∃ (b:Disk),(q_e d.notes b.notes/\d.safe=b.safe)/\smallD b/\(i_0<=none.getD i_0/\none.getD i_0<=(some (wr_ (d.safe+if (if wr_ ((zi d.notes.length)-d.safe)<keep then wr_ ((zi d.notes.length)-d.safe) else keep)>i_0 then if wr_ ((zi d.notes.length)-d.safe)<keep then wr_ ((zi d.notes.length)-d.safe) else keep else i_0))).getD (zi b.notes.length)/\(some (wr_ (d.safe+if (if wr_ ((zi d.notes.length)-d.safe)<keep then wr_ ((zi d.notes.length)-d.safe) else keep)>i_0 then if wr_ ((zi d.notes.length)-d.safe)<keep then wr_ ((zi d.notes.length)-d.safe) else keep else i_0))).getD (zi b.notes.length)<=zi b.notes.length)/\∃ (b_1:List Note),cnRs (cutR (frozenRs (typ dNote eNoteO b.notes)) (none.getD i_0).toNat ((some (wr_ (d.safe+if (if wr_ ((zi d.notes.length)-d.safe)<keep then wr_ ((zi d.notes.length)-d.safe) else keep)>i_0 then if wr_ ((zi d.notes.length)-d.safe)<keep then wr_ ((zi d.notes.length)-d.safe) else keep else i_0))).getD (zi b.notes.length)).toNat)=t_e b_1/\q_e b_1 (fallD d keep).notes/\zi b_1.length=(fallD d keep).safe))=_ by kernel_rfl) ?_
 delta i_0 wr_ zi t_e q_e
 have hk:=hl
 simp only [zza,zzb,true_and,and_true,and_self,ne_eq,cI_app,cWrtO_app,cWrtS_app,cWrtO_1,cItemO_1,opr_ex,zcast,frz_nil,nil_map,Option.getD_none,Option.getD_some]
 refine ⟨fun h=>?_,fun h=>?_⟩
 ·simp at h;simp [fallD,h]
 simp at h
 obtain ⟨g1,g2,g3,g4⟩:=diskB_small h
 simp only [fallD,h,if_true]
 rw [IntWalk.i64_in ((d.notes.length:Int)-d.safe) (by omega)]
 have e:(if 0<(if (d.notes.length:Int)-d.safe<keep then (d.notes.length:Int)-d.safe else keep) then (if (d.notes.length:Int)-d.safe<keep then (d.notes.length:Int)-d.safe else keep) else 0)=max 0 (min keep (d.notes.length-d.safe)):=by
  split<;>split at *<;>omega
 rw [e,IntWalk.i64_in _ (by omega)]
 generalize hz:d.safe+max 0 (min keep (d.notes.length-d.safe))=z
 refine ⟨g1,by omega,by omega,by omega,d.notes.take z.toNat,?_,rfl,?_⟩
 ·rw [show Int.toNat 0=0 from rfl,cut_typ _ (by omega),List.drop_zero,cNoteS]
 ·rw [List.length_take];omega
def impl_DiskFall_c:Con Tryz.prog:=con0 [.lend,.lend] fun b:Disk×Int=>impl_DiskFall_ok (b.1) (b.2)
end Go.Proofs.AI
namespace Go.Proofs.AI
open Go.RowKit
set_option linter.unusedVariables false
set_option linter.unusedSimpArgs false
def eqFs2 (P:Program):List CK->Nat->List Field->Bool
 | ks,_,[]=>ks.isEmpty
 | ks,j,f::fs=>(f.name != "_")&&f.offset==j&&match P.underlying f.type with
  | some (.struct gs)=>!P.stoodInHeld f.type&&decide (gs.size<=ks.length)&&decide ((P.info? f.type).map (·.size)=some gs.size)&&eqFs P (ks.take gs.size) 0 gs.toList&&eqFs2 P (ks.drop gs.size) (j+gs.size) fs
  | u=>match ks with
   | k::ks=>ckOf u k&&eqFs2 P ks (j+1) fs
   | []=>false
theorem areCK_app:∀ {ks ks':List CK} {xs:List Value},areCK (ks++ks') xs->areCK ks (xs.take ks.length)/\areCK ks' (xs.drop ks.length)
 | [],_,_,h=>⟨trivial,h⟩
 | _::_,_,[],h=>h.elim
 | _::ks,_,_::xs,h=>⟨⟨h.1,(areCK_app h.2).1⟩,(areCK_app h.2).2⟩
theorem eqL_app:∀ {a b:List Value} {c d:List Value},a.length=b.length->c.length=d.length->eqL (a++c) (b++d)=(eqL a b&&eqL c d)
 | [],[],c,d,_,_=>by simp [eqL]
 | x::a,y::b,c,d,h,h2=>by
  have h:a.length=b.length:=by simpa using h
  rw [List.cons_append,List.cons_append,eqL_cons (by simp [h,h2]),eqL_cons h,eqL_app h h2,Bool.and_assoc]
theorem run_eqFields2 {P:Program} {w:World} {xs ys:Array Value} (d:Nat):∀ (fs:List Field) (ks:List CK) (j:Nat) (a b:List Value),eqFs2 P ks j fs=true->xs.toList.drop j=a->ys.toList.drop j=b->areCK ks a->areCK ks b ->
  (Op.eqFields (d+2) xs ys fs).run P w=.ok (eqL a b) w
 | [],ks,j,a,b,h,hx,hy,ha,hb=>by
  have hk:ks=[]:=by simpa [eqFs2] using h
  subst hk
  cases a with
  | cons x a=>exact ha.elim
  | nil=>cases b with
   | cons y b=>exact hb.elim
   | nil=>simp [Op.eqFields,eqL]
 | f::fs,ks,j,a,b,h,hx,hy,ha,hb=>by
  simp only [eqFs2,Bool.and_eq_true,bne_iff_ne,beq_iff_eq] at h
  obtain ⟨⟨h1,h2⟩,h3⟩:=h
  split at h3
  ·rename_i gs hu
   simp only [Bool.and_eq_true,Bool.not_eq_true',decide_eq_true_eq] at h3
   obtain ⟨⟨⟨⟨g1,g2⟩,g3⟩,g4⟩,g5⟩:=h3
   obtain ⟨inf,e1,e2⟩:=Option.map_eq_some_iff.1 g3
   have hl:(ks.take gs.size).length=gs.size:=by rw [List.length_take];omega
   have hka:areCK (ks.take gs.size++ks.drop gs.size) a:=by rw [List.take_append_drop];exact ha
   have hkb:areCK (ks.take gs.size++ks.drop gs.size) b:=by rw [List.take_append_drop];exact hb
   obtain ⟨a1,a2⟩:=areCK_app hka
   obtain ⟨b1,b2⟩:=areCK_app hkb
   rw [hl] at a1 a2 b1 b2
   have hp:∀ (zs:Array Value) (c:List Value),zs.toList.drop j=c->(part f.type zs f.offset).run P w=.ok (.agg (zs.extract j (j+gs.size))) w:=fun zs c _=>by
    have hs:(sizeOf f.type).run P w=.ok gs.size w:=by simp [sizeOf,typeInfo,e1,e2]
    simp [part,isAgg,run_underlying hu,TypeDesc.isRow,h2,hs]
   have hxs:(xs.extract j (j+gs.size)).toList=a.take gs.size:=by simp [<- hx]
   have hys:(ys.extract j (j+gs.size)).toList=b.take gs.size:=by simp [<- hy]
   have hf:P.fieldsOf f.type=gs:=by simp [Program.fieldsOf,hu]
   have he:(Op.equalIn (d+2) f.type (.agg (xs.extract j (j+gs.size))) (.agg (ys.extract j (j+gs.size)))).run P w=.ok (eqL (a.take gs.size) (b.take gs.size)) w:=by
    rw [run_equalIn_struct w (d+1) f.type _ _ (by rw [hf];exact hu) g1,hf]
    exact run_eqFields d _ 0 gs.toList _ _ g4 (by simpa using hxs) (by simpa using hys) a1 b1
   have la:=areCK_length a1
   have lb:=areCK_length b1
   have la2:=areCK_length a2
   have lb2:=areCK_length b2
   have hab:eqL a b=(eqL (a.take gs.size) (b.take gs.size)&&eqL (a.drop gs.size) (b.drop gs.size)):=by
    rw [<- eqL_app (by omega) (by omega),List.take_append_drop,List.take_append_drop]
   rw [hab]
   simp only [Op.eqFields,h1,ne_eq,not_false_eq_true,if_true,Sem.run_bind,hp xs a hx,hp ys b hy,Result.andThen_ok,he]
   cases hc:eqL (a.take gs.size) (b.take gs.size)
   ·simp
   ·simpa using run_eqFields2 d fs (ks.drop gs.size) (j+gs.size) (a.drop gs.size) (b.drop gs.size) g5 (by rw [<- hx,List.drop_drop]) (by rw [<- hy,List.drop_drop]) a2 b2
  ·cases ks with
   | nil=>cases h3
   | cons k ks =>
    simp only [Bool.and_eq_true] at h3
    obtain ⟨h3,h4⟩:=h3
    cases a with
    | nil=>exact ha.elim
    | cons x a=>cases b with
     | nil=>exact hb.elim
     | cons y b =>
      have gx:xs[j]?=some x:=by
       have:=congrArg (·[0]?) hx
       simpa using this
      have gy:ys[j]?=some y:=by
       have:=congrArg (·[0]?) hy
       simpa using this
      have dx:xs.toList.drop (j+1)=a:=by rw [<- List.drop_drop,hx];rfl
      have dy:ys.toList.drop (j+1)=b:=by rw [<- List.drop_drop,hy];rfl
      have hl:a.length=b.length:=by rw [<- areCK_length ha.2,<- areCK_length hb.2]
      rw [eqL_cons hl]
      simp only [Op.eqFields,h1,ne_eq,not_false_eq_true,if_true,Sem.run_bind,h2,run_part_ck h3 gx,run_part_ck h3 gy,Result.andThen_ok,run_eq_ck h3 ha.1 hb.1 (d+1)]
      cases hc:eqC x y
      ·simp
      ·simpa using run_eqFields2 d fs ks (j+1) a b h4 dx dy ha.2 hb.2
def eqT2 (P:Program) (t:TypeId) (ks:List CK):Bool:=!P.stoodInHeld t&&!P.eqGuardType P.depth t&&match P.underlying t with
 | some (.struct fs)=>eqFs2 P ks 0 fs.toList
 | _=>false
theorem eqT2_ok {P:Program} {t:TypeId} {ks:List CK} (h:eqT2 P t ks=true) (w:World) (xs ys:Array Value) (ex ey:Operand) (hx:areCK ks xs.toList) (hy:areCK ks ys.toList) :
  (do eqGuard .eql t ex ey (.agg xs) (.agg ys);binOp .eql t (.agg xs) (.agg ys):Sem Value).run P w=.ok (.bool (eqL xs.toList ys.toList)) w /\
  (do eqGuard .neq t ex ey (.agg xs) (.agg ys);binOp .neq t (.agg xs) (.agg ys):Sem Value).run P w=.ok (.bool (!eqL xs.toList ys.toList)) w:=by
 simp only [eqT2,Bool.and_eq_true,Bool.not_eq_true'] at h
 obtain ⟨⟨h1,h2⟩,h3⟩:=h
 split at h3
 ·rename_i fs hu
  have hf:P.fieldsOf t=fs:=by simp [Program.fieldsOf,hu]
  have he:(Op.equalIn 10000 t (.agg xs) (.agg ys)).run P w=.ok (eqL xs.toList ys.toList) w:=by
   rw [run_equalIn_struct w 9999 t xs ys (by rw [hf];exact hu) h1,hf]
   exact run_eqFields2 9997 fs.toList ks 0 _ _ h3 rfl rfl hx hy
  constructor
  ·simp only [Sem.run_bind,run_eqGuard_agg _ _ _ _ _ _ _ h2,Result.andThen_ok,run_eql_struct,he]
  ·simp only [Sem.run_bind,run_eqGuard_agg _ _ _ _ _ _ _ h2,Result.andThen_ok,run_neq_struct,he]
 ·cases h3
theorem tabOf_eq2 {P:Program} {t:TypeId} {i:TyI} (h:tabOf P t=some { i with els:=[],eq:=[] }) (he:eqT2 P t i.eq=true):TyOk P t i:=by
 have:=tabOf_ok t _ h
 exact ⟨this.info,fun hne w xs ys ex ey h1 h2=>eqT2_ok he w xs ys ex ey h1 h2,this.desc⟩
end Go.Proofs.AI
namespace Go.Proofs.AI
open Go.RowKit Go.Proofs
set_option linter.unusedVariables false
set_option linter.unusedSimpArgs false
set_option maxRecDepth 100000
def tabM:Tab:=fun t=>if t=39 then some ⟨.st,11,88,[(0,1,false),(1,1,false),(2,1,false),(3,1,false),(4,7,true)],[.int .i64 0,.int .i64 0,.int .i64 0,.int .i64 0,.int .i64 0,.int .i64 0,.int .i64 0,.int .i64 0,.int .i64 0,.int .i64 0,.int .i64 0],[.n .i64,.n .i64,.n .i64,.n .i64,.n .i64,.n .i64,.n .i64,.n .i64,.n .i64,.n .i64,.n .i64],[]⟩ else tab t
theorem tabM_ok:TabOk Tryz.prog tabM:=by
 intro t i h
 unfold tabM at h
 split at h
 ·rename_i ht;subst ht;cases h;exact tabOf_eq2 rfl (by kernel_rfl)
 ·exact tab_ok t i h
theorem msgEq (x y:Msg):(x.kind==y.kind&&(x.to==y.to&&(x.frm==y.frm&&(x.tx==y.tx&&(x.op.kind==y.op.kind&&(x.op.who==y.op.who&&(x.op.inn==y.op.inn&&(x.op.code==y.op.code&&(x.op.sec==y.op.sec&&(x.op.fam==y.op.fam&&x.op.gen==y.op.gen))))))))))=decide (x=y):=by
 rw [Bool.eq_iff_iff]
 simp only [Bool.and_eq_true,beq_iff_eq,decide_eq_true_eq]
 constructor
 ·rintro ⟨h1,h2,h3,h4,h5,h6,h7,h8,h9,h10,h11⟩
  obtain ⟨_,_,_,_,⟨_,_,_,_,_,_,_⟩⟩:=x;obtain ⟨_,_,_,_,⟨_,_,_,_,_,_,_⟩⟩:=y
  simp only at h1 h2 h3 h4 h5 h6 h7 h8 h9 h10 h11
  subst h1 h2 h3 h4 h5 h6 h7 h8 h9 h10 h11
  rfl
 ·rintro rfl;simp
theorem laws_jaMsgs_ok (a:List Msg) (b:List Msg):FunOK Tryz.prog 28 2 [] [(0,k1 (sMsgs a)),(1,k1 (sMsgs b))] (·=[(2,kB (decide (a=b)))]):=by
 refine fun_to (E:=⟨tabM,ctOf [],26,[],[(0,[0,1]),(1,[0,1,10]),(2,[4]),(3,[0,1,5]),(4,[0,1,5,14]),(5,[0,1,5]),(6,[0,1,5,25]),(7,[4]),(8,[4])],[(0,⟨Nat,fun x=>[(0,(k1 (.sh 39 (typ dMsg eMsg a)))),(1,(k1 (.sh 39 (typ dMsg eMsg b)))),(5,(k1 (.n .i64 (x:Int))))]⟩)],[],[],[]⟩) tabM_ok mixed Tryz.func28 rfl Tryz.ntmps28 (rvs:=[.tmp 4]) Tryz.results28 rfl fun hl=>?_
 refine cast (show ((((zi a.length) != zi b.length)=true->false=decide (a=b))/\(((zi a.length) != zi b.length)=false->∃ (pre:Nat->Prop),∃ (μ:Nat->Nat),∃ (x0:Nat),(q_g a a/\q_g b b/\i_0=zi x0)/\pre x0/\∀ (x:Nat),pre x->(decide (zi x<zi a.length)=true->(i_0<=zi x/\zi x<zi a.length)/\(i_0<=zi x/\zi x<zi b.length)/\((if true=true then !((g_Msg a x).kind==(g_Msg b x).kind&&((g_Msg a x).to==(g_Msg b x).to&&((g_Msg a x).frm==(g_Msg b x).frm&&((g_Msg a x).tx==(g_Msg b x).tx&&((g_Msg a x).op.kind==(g_Msg b x).op.kind&&((g_Msg a x).op.who==(g_Msg b x).op.who&&((g_Msg a x).op.inn==(g_Msg b x).op.inn&&((g_Msg a x).op.code==(g_Msg b x).op.code&&((g_Msg a x).op.sec==(g_Msg b x).op.sec&&((g_Msg a x).op.fam==(g_Msg b x).op.fam&&(g_Msg a x).op.gen==(g_Msg b x).op.gen)))))))))) else (g_Msg a x).kind==(g_Msg b x).kind&&((g_Msg a x).to==(g_Msg b x).to&&((g_Msg a x).frm==(g_Msg b x).frm&&((g_Msg a x).tx==(g_Msg b x).tx&&((g_Msg a x).op.kind==(g_Msg b x).op.kind&&((g_Msg a x).op.who==(g_Msg b x).op.who&&((g_Msg a x).op.inn==(g_Msg b x).op.inn&&((g_Msg a x).op.code==(g_Msg b x).op.code&&((g_Msg a x).op.sec==(g_Msg b x).op.sec&&((g_Msg a x).op.fam==(g_Msg b x).op.fam&&(g_Msg a x).op.gen==(g_Msg b x).op.gen))))))))))=true->false=decide (a=b))/\((if true=true then !((g_Msg a x).kind==(g_Msg b x).kind&&((g_Msg a x).to==(g_Msg b x).to&&((g_Msg a x).frm==(g_Msg b x).frm&&((g_Msg a x).tx==(g_Msg b x).tx&&((g_Msg a x).op.kind==(g_Msg b x).op.kind&&((g_Msg a x).op.who==(g_Msg b x).op.who&&((g_Msg a x).op.inn==(g_Msg b x).op.inn&&((g_Msg a x).op.code==(g_Msg b x).op.code&&((g_Msg a x).op.sec==(g_Msg b x).op.sec&&((g_Msg a x).op.fam==(g_Msg b x).op.fam&&(g_Msg a x).op.gen==(g_Msg b x).op.gen)))))))))) else (g_Msg a x).kind==(g_Msg b x).kind&&((g_Msg a x).to==(g_Msg b x).to&&((g_Msg a x).frm==(g_Msg b x).frm&&((g_Msg a x).tx==(g_Msg b x).tx&&((g_Msg a x).op.kind==(g_Msg b x).op.kind&&((g_Msg a x).op.who==(g_Msg b x).op.who&&((g_Msg a x).op.inn==(g_Msg b x).op.inn&&((g_Msg a x).op.code==(g_Msg b x).op.code&&((g_Msg a x).op.sec==(g_Msg b x).op.sec&&((g_Msg a x).op.fam==(g_Msg b x).op.fam&&(g_Msg a x).op.gen==(g_Msg b x).op.gen))))))))))=false->∃ (y:Nat),(q_g a a/\q_g b b/\wr_ ((zi x)+i_1)=zi y)/\pre y/\μ y<μ x))/\(decide (zi x<zi a.length)=false->true=decide (a=b))))=_ by kernel_rfl) ?_
 delta i_0 i_1 wr_ zi t_g q_g g_Msg
 have hx:a.length<=9223372036854775807:=hl.1 (.c (sMsgs a)) (by simp)
 simp only [zza,zzb,true_and,and_true,and_self,ne_eq,cI_app,cWrtO_app,cWrtS_app,cWrtO_1,cItemO_1,opr_ex,zcast,frz_nil,nil_map,Option.getD_none,Option.getD_some]
 simp only [msgEq,if_true]
 refine ⟨fun h=>?_,fun h=>?_⟩
 ·exact (decide_eq_false fun he=>h (by rw [he])).symm
 have hlen:=len_ne h
 refine ⟨fun i=>i<=a.length/\∀ j,j<i->a.getD j dMsg=b.getD j dMsg,⟨by omega,fun j hj=>absurd hj (Nat.not_lt_zero _)⟩,fun i=>a.length-i,fun i hp=>?_⟩
 obtain ⟨h1,h2⟩:=hp
 refine ⟨fun hlt=>⟨by omega,hlt,by omega,by omega,fun e=>?_,fun e=>⟨i+1,wrapN (by omega),⟨by omega,below_succ h2 (by simpa using e)⟩,by simp only;omega⟩⟩,fun hge=>?_⟩
 ·have e:¬ a.getD i dMsg=b.getD i dMsg:=by simpa using e
  exact (decide_eq_false fun he=>e (by rw [he])).symm
 ·exact (decide_eq_true (ext_getD (d:=dMsg) hlen fun j hj=>h2 j (by omega))).symm
def laws_jaMsgs_c:Con Tryz.prog:=con0 [.lend,.lend] fun b:List Msg×List Msg=>laws_jaMsgs_ok (b.1) (b.2)
end Go.Proofs.AI
namespace Go.Proofs.AI
set_option linter.unusedVariables false
set_option linter.unusedSimpArgs false
theorem ofN_app (ns:List Note) (n:Note) (tx:Int):ofN (ns++[n]) tx=if n.tx=tx/\n.kind≠4 then n.kind else ofN ns tx:=by
 simp only [ofN,List.foldl_append,List.foldl_cons,List.foldl_nil,ofS]
theorem getDLast {ns:List Note} {n:Note}:(ns++[n]).getD ns.length dNote=n:=by
 rw [List.getD_eq_getElem?_getD,List.getElem?_append_right (Nat.le_refl _)];simp
theorem disk_add {d:Disk} {n:Note} {s:Int} (hd:diskB d=true) (hn:noteB n=true) (hl:d.notes.length≠120) (hs:s=d.safe∨s=(d.notes.length:Int)+1):diskB ⟨d.notes++[n],s⟩=true:=by
 obtain ⟨_,g2,g3,g4⟩:=diskB_small hd
 simp only [diskB,List.length_append,List.length_singleton,Bool.and_eq_true,decide_eq_true_eq,List.all_append,List.all_cons,List.all_nil,Bool.and_true,hn,and_true]
 refine ⟨⟨by omega,?_⟩,List.all_eq_true.2 g4⟩
 simp only [inR,Bool.and_eq_true,decide_eq_true_eq]
 omega
theorem msg_tx {m:Msg} (h:msgB m=true):inR m.tx 0 29=true:=by
 simp only [msgB,Bool.and_eq_true] at h;exact h.1
theorem fall_safe {d:Disk} (hd:diskB d=true) (h:d.safe=d.notes.length):fallD d 0=d:=by
 have e:d.safe+max 0 (min 0 ((d.notes.length:Int)-d.safe))=d.notes.length:=by omega
 simp only [fallD,hd,if_true,e]
 have:((d.notes.length:Int)).toNat=d.notes.length:=by omega
 rw [this,List.take_length,<- h]
theorem hear_twice {p:Int} {d:Disk} {m:Msg} (hp:inR p 1 3=true) (hd:diskB d=true) (hm:msgB m=true) (ht:m.to=p):hearD p (hearD p d m).1 m=hearD p d m:=by
 cases hear_cases hp hd hm ht with
 | had k o e=>rw [e];exact e
 | cant k o _ e=>rw [e];exact e
 | full k o f e=>rw [e];exact e
 | knew k o e=>rw [e];exact e
 | vain k o e=>rw [e];exact e
 | can P k o hP ok hl hk hn e =>
  rw [e]
  obtain ⟨_,g2,g3,g4⟩:=diskB_small hd
  have hX:=disk_add hd hn (by omega) (.inr rfl)
  have ho:ofN (d.notes++[⟨1,m.tx,P.locks,P.writes⟩]) m.tx=1:=by rw [ofN_app];simp
  cases hear_cases hp hX hm ht with
  | had _ _ e=>exact e
  | full k2 | yes k2 | knew k2 | no k2 | vain k2=>rw [k] at k2;exact absurd k2 (by decide)
  | cant _ o2=>exact absurd (.inl ho) o2
  | can _ _ o2=>simp only [ho] at o2;cases o2
 | yes k o f e =>
  rw [e]
  have hX:=disk_add hd (note_end (.inl rfl) (msg_tx hm)) f (.inr rfl)
  have ho:ofN (d.notes++[⟨2,m.tx,[],[]⟩]) m.tx=2:=by rw [ofN_app];simp
  cases hear_cases hp hX hm ht with
  | knew _ _ e=>exact e
  | had k2 | cant k2 | can _ k2 | no k2 | vain k2=>rw [k] at k2;exact absurd k2 (by decide)
  | full _ o2=>simp only [ho] at o2;cases o2
  | yes _ o2=>simp only [ho] at o2;cases o2
 | no k o f e =>
  rw [e]
  have hX:=disk_add hd (note_end (.inr rfl) (msg_tx hm)) f (.inl rfl)
  have ho:ofN (d.notes++[⟨3,m.tx,[],[]⟩]) m.tx=3:=by rw [ofN_app];simp
  cases hear_cases hp hX hm ht with
  | vain _ _ e=>exact e
  | had k2 | cant k2 | can _ k2 | full k2 | yes k2 | knew k2=>rw [k] at k2;exact absurd k2 (by decide)
  | no _ o2=>simp only [ho] at o2;cases o2
theorem hear_else {p:Int} {d:Disk} {m:Msg} (h:(inR p 1 3&&diskB d&&msgB m&&m.to==p)=false):hearD p d m=(⟨[],0⟩,[]):=by simp only [hearD,h];rfl
end Go.Proofs.AI
namespace Go.Proofs.AI
open Go.RowKit Go.Proofs
set_option linter.unusedVariables false
set_option linter.unusedSimpArgs false
set_option maxRecDepth 100000
set_option pp.deepTerms true
set_option pp.maxSteps 40000
theorem laws_FnPlcFall_ok (l:List Int) (hpre:okU l):FunOK Tryz.prog 10 1 [] [(0,k1 (sU l))] (·=[(1,kB true)]):=by
 refine fun_to (E:=⟨tab,ctOf [spec_PlcHear_c,impl_PlcHear_c,spec_DrawPlcHear_c,laws_jaDisk_c,laws_jaOk_c,laws_jaMsgs_c,impl_DiskFall_c,laws_jaIn_c,impl_DiskOpen_c],95,[],[(0,[0]),(1,[0,15]),(2,[2]),(3,[3,4,5]),(4,[3,4,5,6,7,22,26,28]),(5,[3,4,5,6,7,8,9,22,26,28,29,33,35]),(6,[3,4,5,6,7,22,26,28,45]),(7,[2]),(8,[3,5,6,7,22,26,28,64]),(9,[2]),(10,[3,5,6,7,10,22,26,28]),(11,[5,6,7,10,11,12,22,26,28,68,72,74]),(12,[2])],[],[(4,[(4,[26])]),(5,[(4,[33])]),(6,[(1000006,[])]),(10,[(2,[67])]),(11,[(4,[72])]),(12,[(1000009,[]),(1000010,[])])],[],[]⟩) tab_ok mixed Tryz.func10 rfl Tryz.ntmps10 (rvs:=[.tmp 2]) Tryz.results10 rfl fun hl=>?_
 refine cast (show (let k_1:Prop:=∃ (b:Unit),True/\true=true;(decide ((zi l.length)>i_1048576)=true->true=true)/\(decide ((zi l.length)>i_1048576)=false->∃ (b:List Int),q_U l b/\okU b/\(∃ (b_1:Int×Disk×Msg),(hearP (List.take n_2000 b)=b_1.1/\(q_e (hearDk (List.take n_2000 b)).1.notes b_1.2.1.notes/\(hearDk (List.take n_2000 b)).1.safe=b_1.2.1.safe)/\(hearM3 (List.take n_2000 b)).1.kind=b_1.2.2.kind/\(hearM3 (List.take n_2000 b)).1.to=b_1.2.2.to/\(hearM3 (List.take n_2000 b)).1.frm=b_1.2.2.frm/\(hearM3 (List.take n_2000 b)).1.tx=b_1.2.2.tx/\(hearM3 (List.take n_2000 b)).1.op.kind=b_1.2.2.op.kind/\(hearM3 (List.take n_2000 b)).1.op.who=b_1.2.2.op.who/\(hearM3 (List.take n_2000 b)).1.op.inn=b_1.2.2.op.inn/\(hearM3 (List.take n_2000 b)).1.op.code=b_1.2.2.op.code/\(hearM3 (List.take n_2000 b)).1.op.sec=b_1.2.2.op.sec/\(hearM3 (List.take n_2000 b)).1.op.fam=b_1.2.2.op.fam/\(hearM3 (List.take n_2000 b)).1.op.gen=b_1.2.2.op.gen)/\(∃ (b_2:Int×Disk×Msg),(hearP (List.take n_2000 b)=b_2.1/\(q_e (hearDk (List.take n_2000 b)).1.notes b_2.2.1.notes/\(hearDk (List.take n_2000 b)).1.safe=b_2.2.1.safe)/\(hearM3 (List.take n_2000 b)).1.kind=b_2.2.2.kind/\(hearM3 (List.take n_2000 b)).1.to=b_2.2.2.to/\(hearM3 (List.take n_2000 b)).1.frm=b_2.2.2.frm/\(hearM3 (List.take n_2000 b)).1.tx=b_2.2.2.tx/\(hearM3 (List.take n_2000 b)).1.op.kind=b_2.2.2.op.kind/\(hearM3 (List.take n_2000 b)).1.op.who=b_2.2.2.op.who/\(hearM3 (List.take n_2000 b)).1.op.inn=b_2.2.2.op.inn/\(hearM3 (List.take n_2000 b)).1.op.code=b_2.2.2.op.code/\(hearM3 (List.take n_2000 b)).1.op.sec=b_2.2.2.op.sec/\(hearM3 (List.take n_2000 b)).1.op.fam=b_2.2.2.op.fam/\(hearM3 (List.take n_2000 b)).1.op.gen=b_2.2.2.op.gen)/\(∃ (b_3:Disk×Disk),((cnRs (frozenRs (typ dNote eNoteO (hearD b_1.1 b_1.2.1 b_1.2.2).1.notes))=t_e b_3.1.notes/\(hearD b_1.1 b_1.2.1 b_1.2.2).1.safe=b_3.1.safe)/\cnRs (frozenRs (typ dNote eNoteO (hearD b_2.1 b_2.2.1 b_2.2.2).1.notes))=t_e b_3.2.notes/\(hearD b_2.1 b_2.2.1 b_2.2.2).1.safe=b_3.2.safe)/\((!decide (b_3.1=b_3.2))=false->∃ (b_4:y_43),(cnRs (frozenRs (typ dMsg eMsg (hearD b_1.1 b_1.2.1 b_1.2.2).2))=t_g b_4.1/\cnRs (frozenRs (typ dMsg eMsg (hearD b_2.1 b_2.2.1 b_2.2.2).2))=t_g b_4.2)/\((!decide (b_4.1=b_4.2))=true->false=true)/\((!decide (b_4.1=b_4.2))=false->(((zi (hearD b_1.1 b_1.2.1 b_1.2.2).2.length) != i_1)=false->(i_0<=i_0/\i_0<(zi (hearD b_1.1 b_1.2.1 b_1.2.2).2.length))/\((((hearD b_1.1 b_1.2.1 b_1.2.2).2.getD (Int.toNat i_0) dMsg).kind != i_4)=false->(((zi (hearD b_1.1 b_1.2.1 b_1.2.2).1.notes.length)==(zi (hearDk (List.take n_2000 b)).1.notes.length))=true->k_1)/\(((zi (hearD b_1.1 b_1.2.1 b_1.2.2).1.notes.length)==(zi (hearDk (List.take n_2000 b)).1.notes.length))=false->∃ (b_5:Disk×Int),((cnRs (frozenRs (typ dNote eNoteO (hearD b_1.1 b_1.2.1 b_1.2.2).1.notes))=t_e b_5.1.notes/\(hearD b_1.1 b_1.2.1 b_1.2.2).1.safe=b_5.1.safe)/\i_0=b_5.2)/\(∃ (b_6:Int×Disk×Msg),(hearP (List.take n_2000 b)=b_6.1/\(q_e (fallD b_5.1 b_5.2).notes b_6.2.1.notes/\(fallD b_5.1 b_5.2).safe=b_6.2.1.safe)/\(hearM3 (List.take n_2000 b)).1.kind=b_6.2.2.kind/\(hearM3 (List.take n_2000 b)).1.to=b_6.2.2.to/\(hearM3 (List.take n_2000 b)).1.frm=b_6.2.2.frm/\(hearM3 (List.take n_2000 b)).1.tx=b_6.2.2.tx/\(hearM3 (List.take n_2000 b)).1.op.kind=b_6.2.2.op.kind/\(hearM3 (List.take n_2000 b)).1.op.who=b_6.2.2.op.who/\(hearM3 (List.take n_2000 b)).1.op.inn=b_6.2.2.op.inn/\(hearM3 (List.take n_2000 b)).1.op.code=b_6.2.2.op.code/\(hearM3 (List.take n_2000 b)).1.op.sec=b_6.2.2.op.sec/\(hearM3 (List.take n_2000 b)).1.op.fam=b_6.2.2.op.fam/\(hearM3 (List.take n_2000 b)).1.op.gen=b_6.2.2.op.gen)/\(∃ (b_7:Disk×Disk),((q_e (fallD b_5.1 b_5.2).notes b_7.1.notes/\(fallD b_5.1 b_5.2).safe=b_7.1.safe)/\cnRs (frozenRs (typ dNote eNoteO (hearD b_1.1 b_1.2.1 b_1.2.2).1.notes))=t_e b_7.2.notes/\(hearD b_1.1 b_1.2.1 b_1.2.2).1.safe=b_7.2.safe)/\(decide (b_7.1=b_7.2)=true->∃ (b_8:Disk×Disk),((cnRs (frozenRs (typ dNote eNoteO (hearD b_6.1 b_6.2.1 b_6.2.2).1.notes))=t_e b_8.1.notes/\(hearD b_6.1 b_6.2.1 b_6.2.2).1.safe=b_8.1.safe)/\q_e (fallD b_5.1 b_5.2).notes b_8.2.notes/\(fallD b_5.1 b_5.2).safe=b_8.2.safe)/\(decide (b_8.1=b_8.2)=true->∃ (b_9:y_43),(cnRs (frozenRs (typ dMsg eMsg (hearD b_6.1 b_6.2.1 b_6.2.2).2))=t_g b_9.1/\cnRs (frozenRs (typ dMsg eMsg (hearD b_1.1 b_1.2.1 b_1.2.2).2))=t_g b_9.2)/\(decide (b_9.1=b_9.2)=true->∃ (b_10:Disk),(q_e (fallD b_5.1 b_5.2).notes b_10.notes/\(fallD b_5.1 b_5.2).safe=b_10.safe)/\(∃ (b_11:List Int×Int),(cnRs (frozenRs (typ i_0 eI (openD b_10)))=t_I b_11.1/\(hearM3 (List.take n_2000 b)).1.tx=b_11.2)/\(b_11.1.any fun (x:Int)=>x==b_11.2)=true))/\(decide (b_9.1=b_9.2)=false->false=true))/\(decide (b_8.1=b_8.2)=false->false=true))/\(decide (b_7.1=b_7.2)=false->false=true)))))/\((((hearD b_1.1 b_1.2.1 b_1.2.2).2.getD (Int.toNat i_0) dMsg).kind != i_4)=true->k_1))/\(((zi (hearD b_1.1 b_1.2.1 b_1.2.2).2.length) != i_1)=true->k_1)))/\((!decide (b_3.1=b_3.2))=true->false=true))))))=_ by kernel_rfl) ?_
 delta i_0 i_1 i_4 zi t_I t_U q_U n_2000 t_e q_e t_g i_1048576 y_43
 simp (config:={ maxSteps:=2000000 }) only [zza,zzb,true_and,and_true,and_self,ne_eq,cI_app,cWrtO_app,cWrtS_app,cWrtO_1,cItemO_1,opr_ex,zcast,frz_nil,nil_map,Option.getD_none,Option.getD_some]
 generalize hearP (List.take 2000 l)=p
 generalize (hearDk (List.take 2000 l)).1=d
 generalize (hearM3 (List.take 2000 l)).1=m
 rcases Bool.eq_false_or_eq_true (inR p 1 3&&diskB d&&msgB m&&m.to==p) with hv | hv
 rotate_left
 ·simp [hear_else hv,hpre]
 simp only [Bool.and_eq_true,beq_iff_eq] at hv
 obtain ⟨⟨⟨hp,hd⟩,hm⟩,ht⟩:=hv
 cases hear_cases hp hd hm ht with
 | had k o e=>simp [e,hpre]
 | cant k o _ e=>simp [e,hpre]
 | full k o f e=>simp [e,hpre]
 | yes k o f e=>simp [e,hpre]
 | knew k o e=>simp [e,hpre]
 | no k o f e=>simp [e,hpre]
 | vain k o e=>simp [e,hpre]
 | can P k o hP ok hl hk hn e =>
  have hX:=disk_add hd hn (by omega) (.inr rfl)
  have ho:ofN (d.notes++[⟨1,m.tx,P.locks,P.writes⟩]) m.tx=1:=by rw [ofN_app];simp
  have ef:=fall_safe hX (by simp)
  have e2:=hear_twice hp hd hm ht
  simp only [e] at e2
  have hop:=openK_has (ns:=d.notes++[⟨1,m.tx,P.locks,P.writes⟩]) (j:=d.notes.length) (by rw [getDLast]) (by rw [getDLast];exact ho) (Nat.le_refl _) (by simp)
  rw [getDLast] at hop
  have hop:((openD ⟨d.notes++[⟨1,m.tx,P.locks,P.writes⟩],(d.notes.length:Int)+1⟩).any fun x=>x==m.tx)=true:=by
   simp only [openD,hX,if_true];exact hop
  simp only [e,ef,e2,hop]
  simp [hpre]
end Go.Proofs.AI
