/- the signatures that right programs of few parts have: names that mangle takes, and how long they get; the signature for a call as a plain function -/
import Derived.Test.YtbhbfpjnenekpaaGreatDoorJW08
import Derived.Test.YtbhbfpjnenekpaaGreatDoorJS95
import Derived.Test.YtbhbfpjnenekpaaGreatDoorJS51
import Derived.Test.YtbhbfpjnenekpaaGreatDoorJS25
import Derived.Test.YtbhbfpjnenekpaaGreatDoorJU01
import Derived.Test.YtbhbfpjnenekpaaGreatDoorJAb7
namespace Go.Abs
set_option linter.unusedSimpArgs false
set_option linter.unusedVariables false
open Go Go.Proofs Tryz
set_option maxRecDepth 100000
set_option maxHeartbeats 2000000
theorem tlen_subst4 {v:List Str} {ar:List Ty} {M:Nat} (h4:4≤M)(ha:∀ u,u∈ar→u.tlen≤M):∀ t:Ty,4*(t.subst v ar).tlen≤t.tlen*M:=by
 intro t
 induction t using Ty.induct with
 | h t ih =>
 have hge:4≤t.tlen:=by rw [Ty.tlen_eq];omega
 rw [subst_eq]
 split
 ·rename_i hc
  have hm:=ha _ (getD_mem hc.2.1 hc.2.2)
  generalize (ar[(indexS t.name v 0).toNat]?).getD default=u at hm
  obtain⟨n,a,q⟩:=u
  have e:(Ty.mk (Ty.mk n a q).name (Ty.mk n a q).args t.pos).tlen=(Ty.mk n a q).tlen:=by rw [Ty.tlen_eq,Ty.tlen_eq];rfl
  rw [e]
  exact Nat.mul_le_mul hge hm
 ·have hl:∀ l:List Ty,(∀ t,t∈l→4*(t.subst v ar).tlen≤t.tlen*M)→4*Ty.tlenL (l.map (Ty.subst v ar))≤Ty.tlenL l*M:=by
   intro l
   induction l with
   | nil=>intro _;simp [Ty.tlenL]
   | cons x l ihl =>
    intro h
    have h1:=h x (by simp)
    have h2:=ihl fun t ht=>h t (by simp [ht])
    rw [List.map_cons,Ty.tlenL,Ty.tlenL,Nat.add_mul]
    omega
  have h3:=hl t.args ih
  rw [Ty.tlen_eq,Ty.tlen_eq t]
  show 4*(t.name.length+4+Ty.tlenL (t.args.map (Ty.subst v ar)))≤_
  rw [Nat.add_mul]
  have:4*(t.name.length+4)≤(t.name.length+4)*M:=by rw [Nat.mul_comm 4];exact Nat.mul_le_mul_left _ h4
  omega
structure Sig.Tl (s:Sig):Prop where
 formals:s.formals.length≤2000∧∀ f,f∈s.formals→f.bound.tlen≤120000
 params:s.params.length≤2000∧∀ f,f∈s.params→f.type.tlen≤120000
 result:s.result.tlen≤120000
structure Decl.Tl (d:Decl):Prop where
 fields:∀ f,f∈d.fields→f.type.tlen≤120000
 sigs:∀ s,s∈d.sigs→s.Tl
 sig:d.sig.Tl
theorem Ty.count_Tl {t:Ty} {k:Int} (h0:0≤k)(h:t.count k≤2000):t.tlen≤120000:=by
 have:=Ty.count_tlen t k h;omega
theorem fo_Tl:LSm foCount (fun f=>f.bound.tlen≤120000):=list_sm foCount (fun f n=>f.bound.count (n+1+((f.name.length / 50:Nat):Int))) (fun f=>f.bound.tlen≤120000) (fun _=>rfl) (fun _ _ _=>rfl)
 (fun x k=>by have:=Ty.count_ge x.bound (k+1+((x.name.length / 50:Nat):Int));omega)
 (fun x k h0 h=>Ty.count_Tl (by omega) h)
theorem pa_Tl:LSm paCount (fun f=>f.type.tlen≤120000):=list_sm paCount (fun f n=>f.type.count (n+1+((f.name.length / 50:Nat):Int))) (fun f=>f.type.tlen≤120000) (fun _=>rfl) (fun _ _ _=>rfl)
 (fun x k=>by have:=Ty.count_ge x.type (k+1+((x.name.length / 50:Nat):Int));omega)
 (fun x k h0 h=>Ty.count_Tl (by omega) h)
theorem Sig.count_Tl (s:Sig)(n:Int)(h0:0≤n)(h:s.count n≤2000):s.Tl:=by
 unfold Sig.count at h
 obtain⟨a1,a2⟩:=fo_Tl s.formals (n+((s.name.length / 50:Nat):Int))
 obtain⟨b1,b2⟩:=pa_Tl s.params (foCount s.formals (n+((s.name.length / 50:Nat):Int)))
 have c1:=Ty.count_ge s.result (paCount s.params (foCount s.formals (n+((s.name.length / 50:Nat):Int))))
 have a3:=(a2 (by omega) (by omega)).1
 have b3:=(b2 (by omega) (by omega)).1
 exact⟨⟨by omega,(a2 (by omega) (by omega)).2⟩,⟨by omega,(b2 (by omega) (by omega)).2⟩,Ty.count_Tl (by omega) h⟩
theorem si_Tl:LSm siCount Sig.Tl:=list_sm siCount Sig.count Sig.Tl (fun _=>rfl) (fun _ _ _=>rfl) (fun x k=>(Sig.count_sm x k).1) (fun x k h0 h=>Sig.count_Tl x k h0 h)
theorem Decl.count_Tl (d:Decl)(n:Int)(h0:0≤n)(h:d.count n≤2000):d.Tl:=by
 unfold Decl.count at h
 generalize hm:n+1+((d.name.length / 50:Nat):Int)+((d.recv.length / 50:Nat):Int)=m at h
 obtain⟨a1,a2⟩:=fo_Tl d.formals m
 obtain⟨b1,b2⟩:=pa_Tl d.fields (foCount d.formals m)
 obtain⟨c1,c2⟩:=si_Tl d.sigs (paCount d.fields (foCount d.formals m))
 obtain⟨e1,e2⟩:=va_sm d.vars (siCount d.sigs (paCount d.fields (foCount d.formals m)))
 generalize hz:vaCount d.vars (siCount d.sigs (paCount d.fields (foCount d.formals m)))=z at *
 unfold Decl.count2 at h
 obtain⟨f1,_⟩:=Sig.count_sm d.sig z
 have g1:=Ex.count_ge d.body (d.sig.count z)
 split at h
 ·exact⟨(b2 (by omega) (by omega)).2,(c2 (by omega) (by omega)).2,Sig.count_Tl d.sig z (by omega) (by omega)⟩
 ·omega
theorem de_Tl:LSm deCount Decl.Tl:=list_sm deCount Decl.count Decl.Tl (fun _=>rfl) (fun _ _ _=>rfl) (fun x k=>(Decl.count_sm x k).1) (fun x k h0 h=>Decl.count_Tl x k h0 h)
theorem Prog.count_Tl (p:Prog)(h:p.count≤600):∀ d,d∈p.decls→d.Tl:=by
 unfold Prog.count at h
 have h1:=Ex.count_ge p.main 0
 obtain⟨a1,a2⟩:=de_Tl p.decls (p.main.count 0)
 exact (a2 (by omega) (by omega)).2
structure Ty.Ni (B:Nat)(t:Ty):Prop where
 mg:t.Mg
 len:t.tlen≤B
structure Sig.Ni (B:Nat)(s:Sig):Prop where
 sm:s.Sm
 formals:s.formals.length≤2000∧∀ f,f∈s.formals→f.bound.Ni B
 params:s.params.length≤2000∧∀ f,f∈s.params→f.type.Ni B
 result:s.result.Ni B
theorem Sig.right_Ni {s:Sig} (hs:s.Sm)(ht:s.Tl)(hr:s.right=true):s.Ni 120000:=by
 simp only [Sig.right,foRight,paRight,Bool.and_eq_true,List.all_eq_true] at hr
 exact⟨hs,⟨ht.formals.1,fun f hf=>⟨Ty.right_Mg (hs.formals.2 f hf).bound (hr.1.1.2 f hf).2,ht.formals.2 f hf⟩⟩,⟨ht.params.1,fun f hf=>⟨Ty.right_Mg (hs.params.2 f hf).type (hr.1.2 f hf).2,ht.params.2 f hf⟩⟩,
  ⟨Ty.right_Mg hs.result hr.2,ht.result⟩⟩
theorem Ty.Ni.subst {B M:Nat} (h4:4≤M) {v:List Str} {ar:List Ty} (ha:∀ u,u∈ar→u.Ni M) {t:Ty} (h:t.Ni B):(t.subst v ar).Ni (B*M / 4):=by
 refine⟨Ty.Mg.subst (fun u hu=>(ha u hu).mg) h.mg,?_⟩
 rw [Nat.le_div_iff_mul_le (by decide),Nat.mul_comm]
 exact Nat.le_trans (tlen_subst4 h4 (fun u hu=>(ha u hu).len) t) (Nat.mul_le_mul_right _ h.len)
theorem Sig.Ni.subst {B M:Nat} (h4:4≤M) {v:List Str} {ar:List Ty} (ha:∀ u,u∈ar→u.Ni M)(has:∀ u,u∈ar→u.Sm) {s:Sig} (h:s.Ni B):(s.subst v ar).Ni (B*M / 4):=by
 refine⟨h.sm.subst has,⟨by simp only [Sig.subst,List.length_map];exact h.formals.1,fun f hf=>?_⟩,⟨by simp only [Sig.subst,List.length_map];exact h.params.1,fun f hf=>?_⟩,h.result.subst h4 ha⟩
 ·obtain⟨x,hx,rfl⟩:=List.mem_map.1 hf
  exact (h.formals.2 x hx).subst h4 ha
 ·obtain⟨x,hx,rfl⟩:=List.mem_map.1 hf
  exact (h.params.2 x hx).subst h4 ha
theorem localT_Ni (i:Nat)(h:i≤100000):(localT i).Ni 12:=by
 refine⟨localT_Mg i h,?_⟩
 have:=dec_len i h
 rw [Ty.tlen_eq]
 simp only [localT,Ty.name,Ty.args,Ty.tlenL,localS,itoa_nat,List.length_cons]
 omega
theorem Sig.Ni.canon {B:Nat} {s:Sig} (h:s.Ni B):s.canon.Ni (B*12 / 4):=by
 have hl:=h.formals.1
 have hs:∀ u,u∈localTs s.formals.length→u.Ni 12:=fun u hu=>by
  obtain⟨i,hi,rfl⟩:=List.mem_map.1 hu
  exact localT_Ni i (by have:=List.mem_range.1 hi;omega)
 refine⟨h.sm.canon,⟨by simp only [Sig.canon,canF_len];exact h.formals.1,fun f hf=>?_⟩,⟨by simp only [Sig.canon,canP_len];exact h.params.1,fun f hf=>?_⟩,h.result.subst (by decide) hs⟩
 ·obtain⟨i,x,hx,hi,rfl⟩:=mem_mapIdx hf
  exact (h.formals.2 x (List.mem_of_getElem? hx)).subst (by decide) hs
 ·obtain⟨i,x,hx,hi,rfl⟩:=mem_mapIdx hf
  exact (h.params.2 x (List.mem_of_getElem? hx)).subst (by decide) hs
theorem flatLen {α:Type} (f:α→Str)(c:Nat):∀ l:List α,(∀ x,x∈l→(f x).length≤c)→(l.flatMap f).length≤l.length*c
 | [],_=>by simp
 | a::l,h=>by
  rw [List.flatMap_cons,List.length_append,List.length_cons,Nat.succ_mul]
  have:=flatLen f c l fun x hx=>h x (by simp [hx])
  have:=h a (by simp)
  omega
theorem Sig.Ni.dum {s:Sig} (h:s.Ni 1200000000):DumOK s:=by
 have hc:=h.canon
 have hf:=hc.formals
 have hp:=hc.params
 have hr:=hc.result
 have e1:=Ty.mg_len s.canon.result
 have e2:=escS_len s.name
 have e3:s.name.length≤1000000:=h.sm.name
 have hfm:(dmF s.canon.formals).length≤s.canon.formals.length*7200000002:=flatLen _ _ _ fun f hf'=>by
  have:=(hf.2 f hf').len
  have:=Ty.mg_len f.bound
  rw [List.length_append];simp only [List.length_cons,List.length_nil];omega
 have hpm:(dmP s.canon.params).length≤s.canon.params.length*7200000002:=flatLen _ _ _ fun f hf'=>by
  have:=(hp.2 f hf').len
  have:=Ty.mg_len f.type
  rw [List.length_append];simp only [List.length_cons,List.length_nil];omega
 have hf3:s.canon.formals.length*7200000002≤2000*7200000002:=Nat.mul_le_mul_right _ hf.1
 have hp3:s.canon.params.length*7200000002≤2000*7200000002:=Nat.mul_le_mul_right _ hp.1
 refine⟨h.sm,fun f hf'=>⟨(hf.2 f hf').mg,?_⟩,fun f hf'=>⟨(hp.2 f hf').mg,?_⟩,⟨hr.mg,?_⟩,?_⟩
 ·have:=(hf.2 f hf').len;unfold tLim;omega
 ·have:=(hp.2 f hf').len;unfold tLim;omega
 ·have:=hr.len;unfold tLim;omega
 ·unfold dumS
  simp only [List.length_append,List.length_cons,List.length_nil]
  have:=hr.len
  omega
theorem Prog.right_sig {p:Prog} (hs:p.Sm)(ht:∀ d,d∈p.decls→d.Tl)(hr:p.right=true) {d:Decl} (hd:d∈p.decls):(∀ s,s∈d.sigs→s.Ni 120000)∧(d.kind=3→d.sig.Ni 120000):=by
 simp only [Prog.right,Bool.and_eq_true,List.all_eq_true] at hr
 have h:=hr.1 d hd
 simp only [Decl.right,Bool.and_eq_true,List.all_eq_true] at h
 have hds:=hs.decls.2 d hd
 refine⟨fun s hs'=>Sig.right_Ni (hds.sigs.2 s hs') ((ht d hd).sigs s hs') (h.2.2.2.1 s hs'),fun hk=>?_⟩
 have h3:=h.2.2.2.2.2
 unfold Decl.right3 at h3
 rw [if_pos hk] at h3
 simp only [Bool.and_eq_true] at h3
 exact Sig.right_Ni hds.sig (ht d hd).sig h3.2.2.1
theorem setT_Ni {p:Prog} (hs:p.Sm)(ht:∀ d,d∈p.decls→d.Tl)(hr:p.right=true) {x:Ty} (hx:x.Sm)(hn:∀ u,u∈x.args→u.Ni 12000):∀ s,s∈setT p [] x→s.Ni 1080000000:=by
 intro s hm
 have hm:=(sortSi_perm _).mem_iff.1 hm
 have key:∀ {v:List Str} {y:Sig},y.Ni 120000→(y.canon.subst v x.args).Ni 1080000000:=fun h=>Sig.Ni.subst (B:=360000) (M:=12000) (by decide) hn hx.arg h.canon
 have hb:boundV [] x=none:=by simp [boundV,findV,idxF]
 unfold setU at hm
 rw [hb] at hm
 simp only [Option.getD_none,Option.isSome_none,Bool.false_eq_true,if_false] at hm
 split at hm
 ·rename_i hi
  unfold specsT at hm
  rw [if_pos hi] at hm
  obtain⟨d,hd,_⟩:=inst_decl (by decide) hi
  rw [hd,Option.getD_some] at hm
  unfold specsD specL at hm
  obtain⟨⟨y,i⟩,hy,rfl⟩:=List.mem_map.1 hm
  have h2:=List.mem_of_mem_take (List.fst_mem_of_mem_zipIdx (List.mem_filter.1 hy).1)
  exact key ((Prog.right_sig hs ht hr (declT_mem hd)).1 y h2)
 ·unfold methL at hm
  obtain⟨⟨d,i⟩,hy,rfl⟩:=List.mem_map.1 hm
  have h2:d∈p.decls:=List.mem_of_mem_take (List.fst_mem_of_mem_zipIdx (List.mem_filter.1 hy).1)
  have h3:=(List.mem_filter.1 hy).2
  unfold methB at h3
  simp only [Bool.and_eq_true,decide_eq_true_eq] at h3
  exact key ((Prog.right_sig hs ht hr h2).2 (by first | exact h3.1.1.1 | exact h3.1.1 | exact h3.1))
def parH (l:List Param):List Param:=l.mapIdx fun i f=>⟨[112]++Lib.itoa (i:Nat),plT f.type,0⟩
def appG (c:CallT)(s:Sig):Sig:=⟨mgM c.name c.targs,[],parH (s.params.map (Param.subst (fnames s.formals) c.targs)),plT (s.result.subst (fnames s.formals) c.targs),0⟩
def appL (l:List Sig)(c:CallT):Option Sig:=if nameI l c.name < 0 then none else
 if ((l[(nameI l c.name).toNat]?).getD sig0).formals.length=c.targs.length then some (appG c ((l[(nameI l c.name).toNat]?).getD sig0)) else none
def appO (p:Prog)(c:CallT):Option Sig:=appL (setT p [] c.on) c
def sgR:Option Sig→SV
 | none=>.tuple [siV sig0,boolV false]
 | some s=>.tuple [siV s,boolV true]
theorem nameI_mem {l:List Sig} {m:Str} (h:¬ nameI l m < 0):∃ s,l[(nameI l m).toNat]? = some s∧s∈l:=by
 unfold nameI at *
 rcases idxF_cases (fun s:Sig=>decide (s.name=m)) l with ⟨h1,_⟩ | ⟨j,s,h1,h2,_⟩
 ·rw [h1] at h;exact absurd (by decide) h
 ·rw [h1,Int.toNat_natCast];exact⟨s,h2,List.mem_of_getElem? h2⟩
set_option maxHeartbeats 1000000
set_option maxHeartbeats 4000000
theorem ok_mfindW (p:Prog)(h:p.Sm)(env:List Formal)(hel:env.length≤sm)(he:∀ f,f∈env→f.Sm)(x:Ty)(hx:x.Sm)(nm:Str) :
  CallOK prog 91 [.dptr (tabC p) 0,.d (.slice (foR env)),tyV x,strV nm] (pickR (setT p env x) nm):=by
 have hs:=ok_Set p h env hel he x hx
 have hp:=ok_pick (setT p env x) (setT_len h env x) nm
 unfold pickR at *
 by_cases hn:nameI (setT p env x) nm < 0
 ·rw [if_pos hn] at hp ⊢
  refine cB func91 ?_
  refine sR [0,1,2,3,6,8,9] ?_
  (refine sV [0,1,2,3,6,8,9] fun K z=>?_;refine cc hs ?_;refine cc hp ?_;apply z;clear z K)
  exact aR
 ·rw [if_neg hn] at hp ⊢
  generalize ((setT p env x)[(nameI (setT p env x) nm).toNat]?).getD sig0=s at *
  refine cB func91 ?_
  refine sR [0,1,2,3,6,8,9] ?_
  (refine sV [0,1,2,3,6,8,9] fun K z=>?_;refine cc hs ?_;refine cc hp ?_;apply z;clear z K)
  exact aR
theorem ok_bapplyW (s:Sig)(h:s.Sm)(args:List Ty)(hl:s.formals.length=args.length)(ha:∀ u,u∈args→u.Sm) :
  CallOK prog 92 [siV s,tysV args] (.tuple [siV (s.subst (fnames s.formals) args),boolV true]):=by
 have hnm:=ok_Names s.formals h.formals.1
 have hsb:=ok_BSubst (fnames s.formals) args ha s h
 rw [show s.formals.map (·.name)=fnames s.formals from rfl] at hnm
 have hl':(s.formals.length:Int)=(args.length:Int):=by omega
 generalize s.subst (fnames s.formals) args=s' at *
 generalize fnames s.formals=nn at *
 refine cB func92 ?_
 refine sR [0,1,2,4,5,11] ?_
 refine kR1 hl' [0,1,2,4,5,11] fun K1 u1=>?_
 refine kI u1 ?_
 clear u1 K1
 (refine sG [0,1,2,4,5,11] [] 5 [] fun K z=>?_;refine ev ?_;refine cc hnm ?_;refine cc hsb ?_;apply z;clear z K)
 exact aR
theorem ok_bapply0 (s:Sig)(args:List Ty)(hl:s.formals.length≠args.length):CallOK prog 92 [siV s,tysV args] (.tuple [siV sig0,boolV false]):=by
 have hl':¬ (s.formals.length:Int)=(args.length:Int):=by omega
 refine cB func92 ?_
 refine sR [0,1,2,4,5,11] ?_
 refine kR1 hl' [0,1,2,4,5,11] fun K1 u1=>?_
 refine tI ?_
 refine sR [0,1,2,4,5,11] ?_
 exact aR
structure CallT.Ni (c:CallT):Prop where
 sm:c.Sm
 on:c.on.Ni 12000
 targs:∀ t,t∈c.targs→t.Ni 12000
 tl:Ty.tlenL c.targs≤12000000
theorem Ty.Ni.args {t:Ty} (h:t.Ni 12000):∀ u,u∈t.args→u.Ni 12000:=fun u hu=>by
 have h1:=h.len
 have h2:=tlenL_mem hu
 rw [Ty.tlen_eq] at h1
 obtain⟨hm,_⟩:=h
 refine⟨?_,by omega⟩
 cases hm with
 | loc i p hi=>simp [Ty.args] at hu
 | nam n a p _ _ _ h4=>exact h4 u hu
theorem parH_take {l:List Param} {j:Nat} {d:Param} (h:l[j]? = some d):parH (l.take (j+1))=parH (l.take j)++[⟨[112]++Lib.itoa (j:Nat),plT d.type,0⟩]:=by
 have hj:=(List.getElem?_eq_some_iff.1 h).1
 have hl:(l.take j).length=j:=by rw [List.length_take];omega
 rw [List.take_succ_eq_append_getElem hj,(List.getElem?_eq_some_iff.1 h).2]
 unfold parH
 rw [List.mapIdx_append,hl]
 simp
theorem parH_len (l:List Param):(parH l).length=l.length:=by simp [parH]
abbrev agS (n:Str)(r:Str)(x:SV):List SV:=[.d (.str n),.d .nil,x,.d (.str r),.d (.slice []),.d (.int .i64 0),.d (.int .i64 0)]
abbrev q1Hx:List Nat:=[0,1,3,4,5,6,7,8,9,10,21,31,43,44,45,46,900]
theorem ok_applied (p:Prog)(h:p.Sm)(ht:∀ d,d∈p.decls→d.Tl)(hr:p.right=true)(c:CallT)(hc:c.Ni):CallOK prog 40 [.dptr (tabC p) 0,caV c] (sgR (appO p c)):=by
 have hset:=setT_Ni h ht hr hc.sm.on hc.on.args
 have hf:=ok_mfindW p h [] (by simp) (by simp) c.on hc.sm.on c.name
 unfold appO appL
 unfold pickR at hf
 have hmem:=@nameI_mem (setT p [] c.on) c.name
 generalize setT p [] c.on=l at *
 by_cases h0:nameI l c.name < 0
 ·rw [if_pos h0] at hf ⊢
  refine cB func40 ?_
  refine sR q1Hx ?_
  refine sC hf q1Hx ?_
  refine kR q1Hx fun K1 u1=>?_
  refine tI ?_
  refine sR q1Hx ?_
  exact aR
 rw [if_neg h0] at hf ⊢
 obtain⟨s,hs,hsl⟩:=hmem h0
 rw [hs,Option.getD_some] at hf ⊢
 have hsn:=hset s hsl
 by_cases hl:s.formals.length=c.targs.length
 rotate_left
 ·have hb:=ok_bapply0 s c.targs hl
  rw [if_neg hl]
  refine cB func40 ?_
  refine sR q1Hx ?_
  refine sC hf q1Hx ?_
  refine kR q1Hx fun K1 u1=>?_
  refine kI u1 ?_
  clear u1 K1
  refine kC hb q1Hx fun K1 u1=>?_
  refine sR q1Hx ?_
  refine tI ?_
  refine sR q1Hx ?_
  exact aR
 rw [if_pos hl]
 have hb:=ok_bapplyW s hsn.sm c.targs hl hc.sm.targs.2
 have hq:=Sig.Ni.subst (v:=fnames s.formals) (by decide:4≤12000) hc.targs hc.sm.targs.2 hsn
 have hM:=ok_MMethod c.name hc.sm.name c.targs hc.sm.targs.1 (fun t h=>(hc.targs t h).mg) (by have:=hc.tl;omega)
 have e1:appG c s=⟨mgM c.name c.targs,[],parH (s.subst (fnames s.formals) c.targs).params,plT (s.subst (fnames s.formals) c.targs).result,0⟩:=rfl
 rw [e1]
 generalize s.subst (fnames s.formals) c.targs=q at *
 have hP:=ok_SPlain q.result hq.result.mg (by have:=hq.result.len;omega)
 have hpl:=hq.params.1
 have hpp:=hq.params.2
 generalize mgM c.name c.targs=nm at *
 refine cB func40 ?_
 refine sR q1Hx ?_
 refine sC hf q1Hx ?_
 refine kR q1Hx fun K1 u1=>?_
 refine kI u1 ?_
 clear u1 K1
 refine kC hb q1Hx fun K1 u1=>?_
 refine sR q1Hx ?_
 refine kI u1 ?_
 clear u1 K1
 (refine sG q1Hx [] 10 [⟨[],[],[8],[8]⟩,⟨[],[],[8],[8]⟩,⟨[],[],[8],[8]⟩,⟨[],[],[8],[8]⟩,⟨[],[],[8],[8]⟩,⟨[],[],[8],[8]⟩,⟨[],[],[8],[8]⟩,⟨[],[],[8],[8]⟩,⟨[],[],[8],[8]⟩,⟨[8],[8],[],[]⟩] fun K z=>?_;refine ev ?_;refine cc hM ?_;refine cc hP ?_;apply z;clear z K)
 refine AWp.promoteBox 900 5 8 2 rfl rfl (by decide) ?_
 refine kR q1Hx fun K1 u1=>?_
 refine AWp.block (AWp.forIdx q.params (X:=Unit) (fun j _=>[(4,.box 4 0),(8,.box 8 0),(43,.d (.slice (paR q.params))),(44,intV q.params.length),(45,intV j)])
  (fun j _=>[(4,.cells [.d (.str []),.d .nil,.d .nil,.d (.str []),.d .nil,.d (.int .i64 0),.d (.int .i64 0)]),(8,.cells (agS nm q.result.mg (.acc 900))),(900,.rows 5 (paR (parH (q.params.take j))))])
  (fun _ _=>True) () trivial sS (by simp [ble,bget,berase,paR,parH];exact⟨rfl,rfl,rfl⟩) ?_ ?_)
 rotate_left
 ·intro j _ d hd hmem dp tk hlt _
  have hj:=(List.getElem?_eq_some_iff.1 hd).1
  have hit:=ok_Itoa (j:Nat) (by omega) (by omega)
  have hil:=Lib.itoa_length_le j (by omega) (by omega)
  have hdp:=ok_SPlain d.type (hpp d hmem).mg (by have:=(hpp d hmem).len;omega)
  have e2:paR (parH (q.params.take (j+1)))=paR (parH (q.params.take j))++[paC ⟨[112]++Lib.itoa (j:Nat),plT d.type,0⟩]:=by rw [parH_take hd];simp [paR]
  have e3:(paR (parH (q.params.take j))).length=j:=by rw [paR_len,parH_len,List.length_take];omega
  rw [e2]
  generalize paR (parH (q.params.take j))=PR at *
  generalize Lib.itoa (j:Nat)=ds at *
  refine sR1 hlt q1Hx ?_
  refine AWp.goOn rfl ?_
  refine sK fun K2 u2=>?_
  refine AWp.block ?_
  (refine sV q1Hx fun K z=>?_;refine ci (paR_get hd) ?_;apply z;clear z K)
  (refine lG q1Hx [] 10 [] fun K z=>?_;refine ev1 e3 ?_;refine⟨_,.inl ⟨_,rfl,hit,rfl⟩,?_⟩;(try refine ev1 e3 ?_);refine⟨by (try simp only [List.length_append,List.length_cons,List.length_nil]);unfold lim;omega,?_⟩;(try refine ev1 e3 ?_);refine⟨_,.inl ⟨_,rfl,hdp,rfl⟩,?_⟩;(try refine ev1 e3 ?_);refine⟨by simp,by (try simp only [e3]);unfold lim;omega,?_⟩;(try refine ev1 e3 ?_);apply z;clear z K;try simp only [thenA,blockA,if_true])
  refine u2 _ _ ?_
  clear u2 K2
  (refine lV q1Hx fun K z=>?_;refine cl ?_;apply z;clear z K;try simp only [thenA,blockA,if_true])
  exact⟨(),trivial,sS,by simp [ble,bget,paC]⟩
 intro _ _
 rw [List.take_length]
 refine sR1 Int.lt_irrefl q1Hx ?_
 refine AWp.stop rfl ?_
 simp only [thenA,blockA,if_true]
 refine u1 _ _ ?_
 clear u1 K1
 refine sR q1Hx ?_
 exact aR
theorem ok_SSig (p:Prog)(h:p.Sm)(ht:∀ d,d∈p.decls→d.Tl)(hr:p.right=true)(c:CallT)(hc:c.Ni):CallOK prog 15 [prV p,caV c] (sgR (appO p c)):=by
 have hn:=ok_New p h
 have ha:=ok_applied p h ht hr c hc
 cases ho:appO p c with
 | none =>
  rw [ho] at ha
  unfold sgR at *
  refine cB func15 ?_
  refine sR [0,1,2,3,4,5] ?_
  (refine sG [0,1,2,3,4,5] [] 6 [] fun K z=>?_;refine ev ?_;refine cc hn ?_;refine cc ha ?_;apply z;clear z K)
  exact aR
 | some s =>
  rw [ho] at ha
  unfold sgR at *
  refine cB func15 ?_
  refine sR [0,1,2,3,4,5] ?_
  (refine sG [0,1,2,3,4,5] [] 6 [] fun K z=>?_;refine ev ?_;refine cc hn ?_;refine cc ha ?_;apply z;clear z K)
  exact aR
abbrev q2Hx:List Nat:=[0,1,2,3,4,5,6,7,8,9,10,11,33,64,900]
theorem ok_RSig23 (p:Prog)(h:p.Sm)(ht:∀ d,d∈p.decls→d.Tl)(hr:p.right=true)(c:CallT)(hc:c.Ni):CallOK prog 16 [prV p,caV c] (sgR (appO p c)):=by
 have hset:=setT_Ni h ht hr hc.sm.on hc.on.args
 have hS:=ok_RSet p h [] (by simp) (by simp) c.on hc.sm.on
 have hlen:=setT_len h [] c.on
 have hF:=ok_RefFind12 (setT p [] c.on) c.name hlen
 unfold appO appL
 have hmem:=@nameI_mem (setT p [] c.on) c.name
 rw [show idxF (fun s:Sig=>decide (s.name=c.name)) (setT p [] c.on)=nameI (setT p [] c.on) c.name from rfl] at hF
 generalize setT p [] c.on=l at *
 generalize nameI l c.name=n at *
 by_cases h0:n < 0
 ·rw [if_pos h0]
  refine cB func16 ?_
  refine sR q2Hx ?_
  refine sC hS q2Hx ?_
  refine sC hF q2Hx ?_
  refine sK fun K1 u1=>?_
  (refine sG q2Hx [] 12 [] fun K z=>?_;refine ev1 h0 ?_;apply z;clear z K)
  refine tI ?_
  refine sR q2Hx ?_
  exact aR
 rw [if_neg h0]
 obtain⟨s,hs,hsl⟩:=hmem h0
 have hn0:0≤n:=by omega
 have hnl:n < l.length:=by have:=(List.getElem?_eq_some_iff.1 hs).1;omega
 rw [hs,Option.getD_some]
 have hsn:=hset s hsl
 by_cases hl:s.formals.length=c.targs.length
 rotate_left
 ·have hl':¬ (s.formals.length:Int)=(c.targs.length:Int):=by omega
  rw [if_neg hl]
  refine cB func16 ?_
  refine sR q2Hx ?_
  refine sC hS q2Hx ?_
  refine sC hF q2Hx ?_
  refine sK fun K1 u1=>?_
  (refine sG q2Hx [] 12 [] fun K z=>?_;refine ev2 h0 hl' ?_;refine⟨by omega,_,siR_get hs,rfl,?_⟩;(try refine ev2 h0 hl' ?_);apply z;clear z K)
  refine tI ?_
  refine sR q2Hx ?_
  exact aR
 rw [if_pos hl]
 have hl':(s.formals.length:Int)=(c.targs.length:Int):=by omega
 have hnm:=ok_RefNames s.formals hsn.sm.formals.1
 rw [show s.formals.map (·.name)=fnames s.formals from rfl] at hnm
 have hM:=ok_RMethod20 c.name hc.sm.name c.targs hc.sm.targs.1 (fun t h=>(hc.targs t h).mg) (by have:=hc.tl;omega)
 have hsr:=ok_RSubst (fnames s.formals) c.targs hc.sm.targs.2 s.result hsn.sm.result
 have hq:=Sig.Ni.subst (v:=fnames s.formals) (by decide:4≤12000) hc.targs hc.sm.targs.2 hsn
 have hP:=ok_RPlain23 (s.result.subst (fnames s.formals) c.targs) hq.result.mg (Nat.le_trans hq.result.len (by decide))
 have hpl:=hsn.params.1
 have hpp:=hsn.params.2
 have hps:=hsn.sm.params.2
 have e1:appG c s=⟨mgM c.name c.targs,[],parH (s.params.map (Param.subst (fnames s.formals) c.targs)),plT (s.result.subst (fnames s.formals) c.targs),0⟩:=rfl
 rw [e1]
 generalize s.result.subst (fnames s.formals) c.targs=rt at *
 generalize mgM c.name c.targs=nm at *
 generalize hNN:fnames s.formals=nn at *
 refine cB func16 ?_
 refine sR q2Hx ?_
 refine sC hS q2Hx ?_
 refine sC hF q2Hx ?_
 refine sK fun K1 u1=>?_
 (refine sG q2Hx [] 12 [] fun K z=>?_;refine ev2 h0 hl' ?_;refine⟨by omega,_,siR_get hs,rfl,?_⟩;(try refine ev2 h0 hl' ?_);apply z;clear z K)
 refine kI u1 ?_
 clear u1 K1
 (refine sV q2Hx fun K z=>?_;refine ci (siR_get hs) ?_;refine cc hnm ?_;apply z;clear z K)
 (refine sG q2Hx [] 17 [⟨[],[],[9],[9]⟩,⟨[],[],[9],[9]⟩,⟨[],[],[9],[9]⟩,⟨[],[],[9],[9]⟩,⟨[],[],[9],[9]⟩,⟨[],[],[9],[9]⟩,⟨[],[],[9],[9]⟩,⟨[],[],[9],[9]⟩,⟨[],[],[9],[9]⟩,⟨[],[],[9],[9]⟩,⟨[],[],[9],[9]⟩,⟨[],[],[9],[9]⟩,⟨[],[],[9],[9]⟩,⟨[],[],[9],[9]⟩,⟨[],[],[9],[9]⟩,⟨[],[],[9],[9]⟩,⟨[9],[9],[],[]⟩] fun K z=>?_;refine ev ?_;refine cc hM ?_;refine ci (siR_get hs) ?_;refine cc hsr ?_;refine cc hP ?_;apply z;clear z K)
 refine AWp.promoteBox 900 5 9 2 rfl rfl (by decide) ?_
 refine kR q2Hx fun K1 u1=>?_
 refine AWp.block (AWp.forIdx s.params (X:=Unit) (fun j _=>[(3,.box 3 0),(4,.box 4 0),(6,.d (.slice (siR l))),(7,intV n),(8,strsV nn),(9,.box 9 0),(10,intV j)])
  (fun j _=>[(3,.cells (caS c)),(4,.cells [.d (.str []),.d .nil,.d .nil,.d (.str []),.d .nil,.d (.int .i64 0),.d (.int .i64 0)]),(9,.cells (agS nm rt.mg (.acc 900))),(900,.rows 5 (paR (parH ((s.params.take j).map (Param.subst nn c.targs)))))])
  (fun _ _=>True) () trivial sS (by simp [ble,bget,berase,paR,parH];exact⟨rfl,rfl,rfl⟩) ?_ ?_)
 rotate_left
 ·intro j _ d hd hmem dp tk hlt _
  have hj:=(List.getElem?_eq_some_iff.1 hd).1
  have hit:=ok_Decimal j (by unfold sm;omega)
  have hil:=Lib.itoa_length_le j (by omega) (by omega)
  rw [← itoa_nat] at hit
  have hdn:=Ty.Ni.subst (v:=nn) (by decide:4≤12000) hc.targs (hpp d hmem)
  have hds:=ok_RSubst nn c.targs hc.sm.targs.2 d.type (hps d hmem).type
  have hdp:=ok_RPlain23 (d.type.subst nn c.targs) hdn.mg (by have:=hdn.len;omega)
  have hd2:(s.params.map (Param.subst nn c.targs))[j]? = some (Param.subst nn c.targs d):=by rw [List.getElem?_map,hd];rfl
  have e2:paR (parH ((s.params.take (j+1)).map (Param.subst nn c.targs)))=paR (parH ((s.params.take j).map (Param.subst nn c.targs)))++[paC ⟨[112]++Lib.itoa (j:Nat),plT (d.type.subst nn c.targs),0⟩]:=by
   rw [List.map_take,parH_take hd2,List.map_take];simp [paR,Param.subst]
  have e3:(paR (parH ((s.params.take j).map (Param.subst nn c.targs)))).length=j:=by rw [paR_len,parH_len,List.length_map,List.length_take];omega
  rw [e2]
  generalize paR (parH ((s.params.take j).map (Param.subst nn c.targs)))=PR at *
  generalize d.type.subst nn c.targs=dt at *
  generalize Lib.itoa (j:Nat)=ds at *
  refine sK fun K2 u2=>?_
  (refine sQ q2Hx fun K z=>?_;refine ev1 hlt ?_;refine⟨by omega,_,siR_get hs,rfl,?_⟩;(try refine ev1 hlt ?_);apply z;clear z K)
  refine gI u2 ?_
  clear u2 K2
  refine sK fun K2 u2=>?_
  refine AWp.block ?_
  (refine sG q2Hx [] 14 [⟨[],[],[11],[11]⟩,⟨[],[],[11],[11]⟩,⟨[],[],[11],[11]⟩,⟨[],[],[11],[11]⟩,⟨[],[],[11],[11]⟩,⟨[],[],[11],[11]⟩,⟨[],[],[11],[11]⟩,⟨[],[],[11],[11]⟩,⟨[],[],[11],[11]⟩,⟨[],[],[11],[11]⟩,⟨[],[],[11],[11]⟩,⟨[],[],[11],[11]⟩,⟨[],[],[11],[11]⟩,⟨[11],[11],[],[]⟩] fun K z=>?_;refine ev ?_;refine ci (siR_get hs) ?_;refine ci (paR_get hd) ?_;refine cc hds ?_;apply z;clear z K)
  (refine lG q2Hx [] 9 [] fun K z=>?_;refine ev1 e3 ?_;refine⟨_,.inl ⟨_,rfl,hit,rfl⟩,?_⟩;(try refine ev1 e3 ?_);refine⟨by (try simp only [List.length_append,List.length_cons,List.length_nil]);unfold lim;omega,?_⟩;(try refine ev1 e3 ?_);refine⟨_,.inl ⟨_,rfl,hdp,rfl⟩,?_⟩;(try refine ev1 e3 ?_);refine⟨by simp,by (try simp only [e3]);unfold lim;omega,?_⟩;(try refine ev1 e3 ?_);apply z;clear z K;try simp only [thenA,blockA,if_true])
  refine u2 _ _ ?_
  clear u2 K2
  (refine lV q2Hx fun K z=>?_;refine cl ?_;apply z;clear z K;try simp only [thenA,blockA,if_true])
  exact⟨(),trivial,sS,by simp [ble,bget,paC]⟩
 intro _ _
 rw [List.take_length]
 refine sK fun K2 u2=>?_
 (refine sQ q2Hx fun K z=>?_;refine ev1 Int.lt_irrefl ?_;refine⟨by omega,_,siR_get hs,rfl,?_⟩;(try refine ev1 Int.lt_irrefl ?_);apply z;clear z K)
 refine AWp.stopK rfl ?_
 simp only [thenA,blockA,if_true]
 refine u1 _ _ ?_
 clear u2 K2 u1 K1
 refine sR q2Hx ?_
 exact aR
end Go.Abs
