/- the signatures that right programs of few parts have: names that mangle takes, and how long they get; the signature for a call as a plain function -/
import Derived.Test.YtfjaahliphbklaaGreatDoorJW08
import Derived.Test.YtfjaahliphbklaaGreatDoorJU01
namespace Go.Abs
set_option linter.unusedSimpArgs false
set_option linter.unusedVariables false
open Go Go.Proofs Tryz
set_option maxRecDepth 100000
set_option maxHeartbeats 2000000
theorem C0d {v:List Str} {ar:List Ty} {M:Nat} (h4:4≤M)(ha:∀ u,u∈ar→u.tlen≤M):∀ t:Ty,4*(t.subst v ar).tlen≤t.tlen*M:=by
 intro t
 induction t using Ty.induct with
 | h t ih =>
 have hge:4≤t.tlen:=by rw [Ty.tlen_eq];omega
 rw [A4n];split
 ·rename_i hc;have hm:=ha _ (C8d hc.2.1 hc.2.2);generalize (ar[(A1b t.name v 0).toNat]?).getD default=u at hm;obtain⟨n,a,q⟩:=u;have e:(Ty.mk (Ty.mk n a q).name (Ty.mk n a q).args t.pos).tlen=(Ty.mk n a q).tlen:=by rw [Ty.tlen_eq,Ty.tlen_eq];rfl
  rw [e];exact Nat.mul_le_mul hge hm
 ·have hl:∀ l:List Ty,(∀ t,t∈l→4*(t.subst v ar).tlen≤t.tlen*M)→4*Ty.tlenL (l.map (Ty.subst v ar))≤Ty.tlenL l*M:=by
   intro l
   induction l with
   | nil=>intro _;simp [Ty.tlenL]
   | cons x l ihl =>intro h;have h1:=h x (by simp);have h2:=ihl fun t ht=>h t (by simp [ht]);rw [List.map_cons,Ty.tlenL,Ty.tlenL,Nat.add_mul];omega
  have h3:=hl t.args ih;rw [Ty.tlen_eq,Ty.tlen_eq t];show 4*(t.name.length+4+Ty.tlenL (t.args.map (Ty.subst v ar)))≤_;rw [Nat.add_mul];have:4*(t.name.length+4)≤(t.name.length+4)*M:=by rw [Nat.mul_comm 4];exact Nat.mul_le_mul_left _ h4
  omega
structure Sig.Tl (s:Sig):Prop where
 formals:s.formals.length≤2000∧∀ f,f∈s.formals→f.bound.tlen≤120000
 params:s.params.length≤2000∧∀ f,f∈s.params→f.type.tlen≤120000
 result:s.result.tlen≤120000
structure Decl.Tl (d:Decl):Prop where
 fields:∀ f,f∈d.fields→f.type.tlen≤120000
 sigs:∀ s,s∈d.sigs→s.Tl
 sig:d.sig.Tl
theorem Ty.count_Tl {t:Ty} {k:Int} (h0:0≤k)(h:t.count k≤2000):t.tlen≤120000:=by have:=Ty.count_tlen t k h;omega
theorem G0k:LSm A0i (fun f=>f.bound.tlen≤120000):=A3r A0i (fun f n=>f.bound.count (n+1+((f.name.length / 50:Nat):Int))) (fun f=>f.bound.tlen≤120000) (fun _=>rfl) (fun _ _ _=>rfl)
 (fun x k=>by have:=Ty.count_ge x.bound (k+1+((x.name.length / 50:Nat):Int));omega)
 (fun x k h0 h=>Ty.count_Tl (by omega) h)
theorem F9f:LSm A0p (fun f=>f.type.tlen≤120000):=A3r A0p (fun f n=>f.type.count (n+1+((f.name.length / 50:Nat):Int))) (fun f=>f.type.tlen≤120000) (fun _=>rfl) (fun _ _ _=>rfl)
 (fun x k=>by have:=Ty.count_ge x.type (k+1+((x.name.length / 50:Nat):Int));omega)
 (fun x k h0 h=>Ty.count_Tl (by omega) h)
theorem Sig.count_Tl (s:Sig)(n:Int)(h0:0≤n)(h:s.count n≤2000):s.Tl:=by unfold Sig.count at h;obtain⟨a1,a2⟩:=G0k s.formals (n+((s.name.length / 50:Nat):Int));obtain⟨b1,b2⟩:=F9f s.params (A0i s.formals (n+((s.name.length / 50:Nat):Int)));have c1:=Ty.count_ge s.result (A0p s.params (A0i s.formals (n+((s.name.length / 50:Nat):Int))));have a3:=(a2 (by omega) (by omega)).1;have b3:=(b2 (by omega) (by omega)).1;exact⟨⟨by omega,(a2 (by omega) (by omega)).2⟩,⟨by omega,(b2 (by omega) (by omega)).2⟩,Ty.count_Tl (by omega) h⟩
theorem G3v:LSm A0u Sig.Tl:=A3r A0u Sig.count Sig.Tl (fun _=>rfl) (fun _ _ _=>rfl) (fun x k=>(Sig.count_sm x k).1) (fun x k h0 h=>Sig.count_Tl x k h0 h)
theorem Decl.count_Tl (d:Decl)(n:Int)(h0:0≤n)(h:d.count n≤2000):d.Tl:=by
 unfold Decl.count at h;generalize hm:n+1+((d.name.length / 50:Nat):Int)+((d.recv.length / 50:Nat):Int)=m at h;obtain⟨a1,a2⟩:=G0k d.formals m;obtain⟨b1,b2⟩:=F9f d.fields (A0i d.formals m);obtain⟨c1,c2⟩:=G3v d.sigs (A0p d.fields (A0i d.formals m));obtain⟨e1,e2⟩:=D6s d.vars (A0u d.sigs (A0p d.fields (A0i d.formals m)));generalize hz:A2i d.vars (A0u d.sigs (A0p d.fields (A0i d.formals m)))=z at *;unfold Decl.count2 at h;obtain⟨f1,_⟩:=Sig.count_sm d.sig z;have g1:=Ex.count_ge d.body (d.sig.count z);split at h
 ·exact⟨(b2 (by omega) (by omega)).2,(c2 (by omega) (by omega)).2,Sig.count_Tl d.sig z (by omega) (by omega)⟩
 ·omega
theorem G4x:LSm A2n Decl.Tl:=A3r A2n Decl.count Decl.Tl (fun _=>rfl) (fun _ _ _=>rfl) (fun x k=>(Decl.count_sm x k).1) (fun x k h0 h=>Decl.count_Tl x k h0 h)
theorem Prog.count_Tl (p:Prog)(h:p.count≤600):∀ d,d∈p.decls→d.Tl:=by unfold Prog.count at h;have h1:=Ex.count_ge p.main 0;obtain⟨a1,a2⟩:=G4x p.decls (p.main.count 0);exact (a2 (by omega) (by omega)).2
structure Ty.Ni (B:Nat)(t:Ty):Prop where
 mg:t.Mg
 len:t.tlen≤B
structure Sig.Ni (B:Nat)(s:Sig):Prop where
 sm:s.Sm
 formals:s.formals.length≤2000∧∀ f,f∈s.formals→f.bound.Ni B
 params:s.params.length≤2000∧∀ f,f∈s.params→f.type.Ni B
 result:s.result.Ni B
theorem Sig.right_Ni {s:Sig} (hs:s.Sm)(ht:s.Tl)(hr:s.right=true):s.Ni 120000:=by
 simp only [Sig.right,A6e,A4z,Bool.and_eq_true,List.all_eq_true] at hr;exact⟨hs,⟨ht.formals.1,fun f hf=>⟨Ty.right_Mg (hs.formals.2 f hf).bound (hr.1.1.2 f hf).2,ht.formals.2 f hf⟩⟩,⟨ht.params.1,fun f hf=>⟨Ty.right_Mg (hs.params.2 f hf).type (hr.1.2 f hf).2,ht.params.2 f hf⟩⟩,
  ⟨Ty.right_Mg hs.result hr.2,ht.result⟩⟩
theorem Ty.Ni.subst {B M:Nat} (h4:4≤M) {v:List Str} {ar:List Ty} (ha:∀ u,u∈ar→u.Ni M) {t:Ty} (h:t.Ni B):(t.subst v ar).Ni (B*M / 4):=by refine⟨Ty.Mg.subst (fun u hu=>(ha u hu).mg) h.mg,?_⟩;rw [Nat.le_div_iff_mul_le (by decide),Nat.mul_comm];exact Nat.le_trans (C0d h4 (fun u hu=>(ha u hu).len) t) (Nat.mul_le_mul_right _ h.len)
theorem Sig.Ni.subst {B M:Nat} (h4:4≤M) {v:List Str} {ar:List Ty} (ha:∀ u,u∈ar→u.Ni M)(has:∀ u,u∈ar→u.Sm) {s:Sig} (h:s.Ni B):(s.subst v ar).Ni (B*M / 4):=by
 refine⟨h.sm.subst has,⟨by simp only [Sig.subst,List.length_map];exact h.formals.1,fun f hf=>?_⟩,⟨by simp only [Sig.subst,List.length_map];exact h.params.1,fun f hf=>?_⟩,h.result.subst h4 ha⟩
 ·obtain⟨x,hx,rfl⟩:=List.mem_map.1 hf;exact (h.formals.2 x hx).subst h4 ha
 ·obtain⟨x,hx,rfl⟩:=List.mem_map.1 hf;exact (h.params.2 x hx).subst h4 ha
theorem F0w (i:Nat)(h:i≤100000):(B8p i).Ni 12:=by refine⟨D4t i h,?_⟩;have:=C7o i h;rw [Ty.tlen_eq];simp only [B8p,Ty.name,Ty.args,Ty.tlenL,A1x,A6p,List.length_cons];omega
theorem Sig.Ni.canon {B:Nat} {s:Sig} (h:s.Ni B):s.canon.Ni (B*12 / 4):=by
 have hl:=h.formals.1;have hs:∀ u,u∈A1g s.formals.length→u.Ni 12:=fun u hu=>by obtain⟨i,hi,rfl⟩:=List.mem_map.1 hu;exact F0w i (by have:=List.mem_range.1 hi;omega)
 refine⟨h.sm.canon,⟨by simp only [Sig.canon,A5b];exact h.formals.1,fun f hf=>?_⟩,⟨by simp only [Sig.canon,A4m];exact h.params.1,fun f hf=>?_⟩,h.result.subst (by decide) hs⟩
 ·obtain⟨i,x,hx,hi,rfl⟩:=A6w hf;exact (h.formals.2 x (List.mem_of_getElem? hx)).subst (by decide) hs
 ·obtain⟨i,x,hx,hi,rfl⟩:=A6w hf;exact (h.params.2 x (List.mem_of_getElem? hx)).subst (by decide) hs
theorem D7c {α:Type} (f:α→Str)(c:Nat):∀ l:List α,(∀ x,x∈l→(f x).length≤c)→(l.flatMap f).length≤l.length*c
 | [],_=>by simp
 | a::l,h=>by rw [List.flatMap_cons,List.length_append,List.length_cons,Nat.succ_mul];have:=D7c f c l fun x hx=>h x (by simp [hx]);have:=h a (by simp);omega
theorem Sig.Ni.dum {s:Sig} (h:s.Ni 1200000000):DumOK s:=by
 have hc:=h.canon;have hf:=hc.formals;have hp:=hc.params;have hr:=hc.result;have e1:=Ty.mg_len s.canon.result;have e2:=B2s s.name;have e3:s.name.length≤1000000:=h.sm.name;have hfm:(dmF s.canon.formals).length≤s.canon.formals.length*7200000002:=D7c _ _ _ fun f hf'=>by have:=(hf.2 f hf').len;have:=Ty.mg_len f.bound;rw [List.length_append];simp only [List.length_cons,List.length_nil];omega
 have hpm:(dmP s.canon.params).length≤s.canon.params.length*7200000002:=D7c _ _ _ fun f hf'=>by have:=(hp.2 f hf').len;have:=Ty.mg_len f.type;rw [List.length_append];simp only [List.length_cons,List.length_nil];omega
 have hf3:s.canon.formals.length*7200000002≤2000*7200000002:=Nat.mul_le_mul_right _ hf.1;have hp3:s.canon.params.length*7200000002≤2000*7200000002:=Nat.mul_le_mul_right _ hp.1;refine⟨h.sm,fun f hf'=>⟨(hf.2 f hf').mg,?_⟩,fun f hf'=>⟨(hp.2 f hf').mg,?_⟩,⟨hr.mg,?_⟩,?_⟩
 ·have:=(hf.2 f hf').len;unfold G1x;omega
 ·have:=(hp.2 f hf').len;unfold G1x;omega
 ·have:=hr.len;unfold G1x;omega
 ·unfold E6g;simp only [List.length_append,List.length_cons,List.length_nil];have:=hr.len;omega
theorem Prog.right_sig {p:Prog} (hs:p.Sm)(ht:∀ d,d∈p.decls→d.Tl)(hr:p.right=true) {d:Decl} (hd:d∈p.decls):(∀ s,s∈d.sigs→s.Ni 120000)∧(d.kind=3→d.sig.Ni 120000):=by simp only [Prog.right,Bool.and_eq_true,List.all_eq_true] at hr;have h:=hr.1 d hd;simp only [Decl.right,Bool.and_eq_true,List.all_eq_true] at h;have hds:=hs.decls.2 d hd;refine⟨fun s hs'=>Sig.right_Ni (hds.sigs.2 s hs') ((ht d hd).sigs s hs') (h.2.2.2.1 s hs'),fun hk=>?_⟩;have h3:=h.2.2.2.2.2;unfold Decl.right3 at h3;rw [if_pos hk] at h3;simp only [Bool.and_eq_true] at h3;exact Sig.right_Ni hds.sig (ht d hd).sig h3.2.2.1
theorem B2e {p:Prog} (hs:p.Sm)(ht:∀ d,d∈p.decls→d.Tl)(hr:p.right=true) {x:Ty} (hx:x.Sm)(hn:∀ u,u∈x.args→u.Ni 12000):∀ s,s∈A3o p [] x→s.Ni 1080000000:=by
 intro s hm;have hm:=(A4r _).mem_iff.1 hm;have key:∀ {v:List Str} {y:Sig},y.Ni 120000→(y.canon.subst v x.args).Ni 1080000000:=fun h=>Sig.Ni.subst (B:=360000) (M:=12000) (by decide) hn hx.arg h.canon;have hb:A1i [] x=none:=by simp [A1i,A3u,B0h]
 unfold C7a at hm;rw [hb] at hm;simp only [Option.getD_none,Option.isSome_none,Bool.false_eq_true,if_false] at hm;split at hm
 ·rename_i hi;unfold A4h at hm;rw [if_pos hi] at hm;obtain⟨d,hd,_⟩:=A3n (by decide) hi;rw [hd,Option.getD_some] at hm;unfold D1q A9b at hm;obtain⟨⟨y,i⟩,hy,rfl⟩:=List.mem_map.1 hm;have h2:=List.mem_of_mem_take (List.fst_mem_of_mem_zipIdx (List.mem_filter.1 hy).1);exact key ((Prog.right_sig hs ht hr (A3d hd)).1 y h2)
 ·unfold A5y at hm;obtain⟨⟨d,i⟩,hy,rfl⟩:=List.mem_map.1 hm;have h2:d∈p.decls:=List.mem_of_mem_take (List.fst_mem_of_mem_zipIdx (List.mem_filter.1 hy).1);have h3:=(List.mem_filter.1 hy).2;unfold B2k at h3;simp only [Bool.and_eq_true,decide_eq_true_eq] at h3;exact key ((Prog.right_sig hs ht hr h2).2 (by first | exact h3.1.1.1 | exact h3.1.1 | exact h3.1))
def A8w (l:List Param):List Param:=l.mapIdx fun i f=>⟨[112]++Lib.itoa (i:Nat),plT f.type,0⟩
def B9m (c:CallT)(s:Sig):Sig:=⟨mgM c.name c.targs,[],A8w (s.params.map (Param.subst (A0d s.formals) c.targs)),plT (s.result.subst (A0d s.formals) c.targs),0⟩
def G0c (l:List Sig)(c:CallT):Option Sig:=if A3j l c.name < 0 then none else
 if ((l[(A3j l c.name).toNat]?).getD D6a).formals.length=c.targs.length then some (B9m c ((l[(A3j l c.name).toNat]?).getD D6a)) else none
def A6g (p:Prog)(c:CallT):Option Sig:=G0c (A3o p [] c.on) c
def sgR:Option Sig→SV
 | none=>.tuple [siV D6a,A0m false]
 | some s=>.tuple [siV s,A0m true]
theorem A9e {l:List Sig} {m:Str} (h:¬ A3j l m < 0):∃ s,l[(A3j l m).toNat]? = some s∧s∈l:=by
 unfold A3j at *;rcases A2w (fun s:Sig=>decide (s.name=m)) l with ⟨h1,_⟩ | ⟨j,s,h1,h2,_⟩
 ·rw [h1] at h;exact absurd (by decide) h
 ·rw [h1,Int.toNat_natCast];exact⟨s,h2,List.mem_of_getElem? h2⟩
set_option maxHeartbeats 1000000
set_option maxHeartbeats 4000000
theorem D2b (p:Prog)(h:p.Sm)(env:List Formal)(hel:env.length≤sm)(he:∀ f,f∈env→f.Sm)(x:Ty)(hx:x.Sm)(nm:Str) :
  A0a prog 97 [.dptr (B0u p) 0,.d (.slice (foR env)),tyV x,A2d nm] (D7m (A3o p env x) nm):=by
 have hs:=D3z p h env hel he x hx;have hp:=F2c (A3o p env x) (A3h h env x) nm;unfold D7m at *;by_cases hn:A3j (A3o p env x) nm < 0
 ·rw [if_pos hn] at hp ⊢;refine cB func97 ?_;refine sR [0,1,2,3,6,8,9] ?_
  (refine sV [0,1,2,3,6,8,9] fun K z=>?_;refine cc hs ?_;refine cc hp ?_;apply z;clear z K)
  exact aR
 ·rw [if_neg hn] at hp ⊢;generalize ((A3o p env x)[(A3j (A3o p env x) nm).toNat]?).getD D6a=s at *;refine cB func97 ?_;refine sR [0,1,2,3,6,8,9] ?_
  (refine sV [0,1,2,3,6,8,9] fun K z=>?_;refine cc hs ?_;refine cc hp ?_;apply z;clear z K)
  exact aR
theorem C6i (s:Sig)(h:s.Sm)(args:List Ty)(hl:s.formals.length=args.length)(ha:∀ u,u∈args→u.Sm) :
  A0a prog 98 [siV s,A3s args] (.tuple [siV (s.subst (A0d s.formals) args),A0m true]):=by
 have hnm:=B5f s.formals h.formals.1;have hsb:=C1b (A0d s.formals) args ha s h;rw [show s.formals.map (·.name)=A0d s.formals from rfl] at hnm;have hl':(s.formals.length:Int)=(args.length:Int):=by omega
 generalize s.subst (A0d s.formals) args=s' at *;generalize A0d s.formals=nn at *;refine cB func98 ?_;refine sR [0,1,2,4,5,11] ?_;refine kR1 hl' [0,1,2,4,5,11] fun K1 u1=>?_;refine kI u1 ?_;clear u1 K1
 (refine sG [0,1,2,4,5,11] [] 5 [] fun K z=>?_;refine ev ?_;refine cc hnm ?_;refine cc hsb ?_;apply z;clear z K)
 exact aR
theorem E5r (s:Sig)(args:List Ty)(hl:s.formals.length≠args.length):A0a prog 98 [siV s,A3s args] (.tuple [siV D6a,A0m false]):=by
 have hl':¬ (s.formals.length:Int)=(args.length:Int):=by omega
 refine cB func98 ?_;refine sR [0,1,2,4,5,11] ?_;refine kR1 hl' [0,1,2,4,5,11] fun K1 u1=>?_;refine tI ?_;refine sR [0,1,2,4,5,11] ?_;exact aR
structure CallT.Ni (c:CallT):Prop where
 sm:c.Sm
 on:c.on.Ni 12000
 targs:∀ t,t∈c.targs→t.Ni 12000
 tl:Ty.tlenL c.targs≤12000000
theorem Ty.Ni.args {t:Ty} (h:t.Ni 12000):∀ u,u∈t.args→u.Ni 12000:=fun u hu=>by
 have h1:=h.len;have h2:=A5a hu;rw [Ty.tlen_eq] at h1;obtain⟨hm,_⟩:=h;refine⟨?_,by omega⟩;cases hm with
 | loc i p hi=>simp [Ty.args] at hu
 | nam n a p _ _ _ h4=>exact h4 u hu
theorem B6j {l:List Param} {j:Nat} {d:Param} (h:l[j]? = some d):A8w (l.take (j+1))=A8w (l.take j)++[⟨[112]++Lib.itoa (j:Nat),plT d.type,0⟩]:=by
 have hj:=(List.getElem?_eq_some_iff.1 h).1;have hl:(l.take j).length=j:=by rw [List.length_take];omega
 rw [List.take_succ_eq_append_getElem hj,(List.getElem?_eq_some_iff.1 h).2];unfold A8w;rw [List.mapIdx_append,hl];simp
theorem B0e (l:List Param):(A8w l).length=l.length:=by simp [A8w]
abbrev agS (n:Str)(r:Str)(x:SV):List SV:=[.d (.str n),.d .nil,x,.d (.str r),.d (.slice []),.d (.int .i64 0),.d (.int .i64 0)]
abbrev C1d:List Nat:=[0,1,3,4,5,6,7,8,9,10,21,31,43,44,45,46,900]
theorem B7g (p:Prog)(h:p.Sm)(ht:∀ d,d∈p.decls→d.Tl)(hr:p.right=true)(c:CallT)(hc:c.Ni):A0a prog 42 [.dptr (B0u p) 0,caV c] (sgR (A6g p c)):=by
 have hset:=B2e h ht hr hc.sm.on hc.on.args;have hf:=D2b p h [] (by simp) (by simp) c.on hc.sm.on c.name;unfold A6g G0c;unfold D7m at hf;have hmem:=@A9e (A3o p [] c.on) c.name;generalize A3o p [] c.on=l at *;by_cases h0:A3j l c.name < 0
 ·rw [if_pos h0] at hf ⊢;refine cB func42 ?_;refine sR C1d ?_;refine sC hf C1d ?_;refine kR C1d fun K1 u1=>?_;refine tI ?_;refine sR C1d ?_;exact aR
 rw [if_neg h0] at hf ⊢;obtain⟨s,hs,hsl⟩:=hmem h0;rw [hs,Option.getD_some] at hf ⊢;have hsn:=hset s hsl;by_cases hl:s.formals.length=c.targs.length;rotate_left
 ·have hb:=E5r s c.targs hl;rw [if_neg hl];refine cB func42 ?_;refine sR C1d ?_;refine sC hf C1d ?_;refine kR C1d fun K1 u1=>?_;refine kI u1 ?_;clear u1 K1;refine kC hb C1d fun K1 u1=>?_;refine sR C1d ?_;refine tI ?_;refine sR C1d ?_;exact aR
 rw [if_pos hl];have hb:=C6i s hsn.sm c.targs hl hc.sm.targs.2;have hq:=Sig.Ni.subst (v:=A0d s.formals) (by decide:4≤12000) hc.targs hc.sm.targs.2 hsn;have hM:=B6x c.name hc.sm.name c.targs hc.sm.targs.1 (fun t h=>(hc.targs t h).mg) (by have:=hc.tl;omega);have e1:B9m c s=⟨mgM c.name c.targs,[],A8w (s.subst (A0d s.formals) c.targs).params,plT (s.subst (A0d s.formals) c.targs).result,0⟩:=rfl;rw [e1];generalize s.subst (A0d s.formals) c.targs=q at *;have hP:=B2b q.result hq.result.mg (by have:=hq.result.len;omega);have hpl:=hq.params.1;have hpp:=hq.params.2;generalize mgM c.name c.targs=nm at *;refine cB func42 ?_;refine sR C1d ?_;refine sC hf C1d ?_;refine kR C1d fun K1 u1=>?_;refine kI u1 ?_;clear u1 K1;refine kC hb C1d fun K1 u1=>?_;refine sR C1d ?_;refine kI u1 ?_;clear u1 K1
 (refine sG C1d [] 10 [⟨[],[],[8],[8]⟩,⟨[],[],[8],[8]⟩,⟨[],[],[8],[8]⟩,⟨[],[],[8],[8]⟩,⟨[],[],[8],[8]⟩,⟨[],[],[8],[8]⟩,⟨[],[],[8],[8]⟩,⟨[],[],[8],[8]⟩,⟨[],[],[8],[8]⟩,⟨[8],[8],[],[]⟩] fun K z=>?_;refine ev ?_;refine cc hM ?_;refine cc hP ?_;apply z;clear z K)
 refine AWp.promoteBox 900 5 8 2 rfl rfl (by decide) ?_;refine kR C1d fun K1 u1=>?_;refine AWp.bb (AWp.ii q.params (X:=Unit) (fun j _=>[(4,.box 4 0),(8,.box 8 0),(43,.d (.slice (paR q.params))),(44,A0g q.params.length),(45,A0g j)])
  (fun j _=>[(4,.cells [.d (.str []),.d .nil,.d .nil,.d (.str []),.d .nil,.d (.int .i64 0),.d (.int .i64 0)]),(8,.cells (agS nm q.result.mg (.acc 900))),(900,.rows 5 (paR (A8w (q.params.take j))))])
  (fun _ _=>True) () trivial sS (by simp [ble,A0h,paR,A8w];exact⟨rfl,rfl,rfl⟩) ?_ ?_)
 rotate_left
 ·intro j _ d hd hmem dp tk hlt _;have hj:=(List.getElem?_eq_some_iff.1 hd).1;have hit:=C7q (j:Nat) (by omega) (by omega);have hil:=Lib.itoa_length_le j (by omega) (by omega);have hdp:=B2b d.type (hpp d hmem).mg (by have:=(hpp d hmem).len;omega);have e2:paR (A8w (q.params.take (j+1)))=paR (A8w (q.params.take j))++[paC ⟨[112]++Lib.itoa (j:Nat),plT d.type,0⟩]:=by rw [B6j hd];simp [paR]
  have e3:(paR (A8w (q.params.take j))).length=j:=by rw [B0o,B0e,List.length_take];omega
  rw [e2];generalize paR (A8w (q.params.take j))=PR at *;generalize Lib.itoa (j:Nat)=ds at *;refine sR1 hlt C1d ?_;refine AWp.goOn rfl ?_;refine sK fun K2 u2=>?_;refine AWp.bb ?_
  (refine sV C1d fun K z=>?_;refine ci (A0r hd) ?_;apply z;clear z K)
  (refine lG C1d [] 10 [] fun K z=>?_;refine ev ?_;refine cc hit ?_;refine⟨by (try simp only [List.length_append,List.length_cons,List.length_nil]);unfold lim;omega,?_⟩;(try refine ev1 e3 ?_);refine⟨_,.inl ⟨_,rfl,hdp,rfl⟩,?_⟩;(try refine ev1 e3 ?_);refine⟨by simp,by (try simp only [e3]);unfold lim;omega,?_⟩;(try refine ev1 e3 ?_);apply z;clear z K;try simp only [A0c,A0e])
  refine u2 _ _ ?_;clear u2 K2
  (refine lV C1d fun K z=>?_;refine cl ?_;apply z;clear z K;try simp only [A0c,])
  exact⟨(),trivial,sS,by simp [ble,A0h,paC]⟩
 intro _ _;rw [List.take_length];refine sR1 Int.lt_irrefl C1d ?_;refine AWp.stop rfl ?_;simp only [TB];refine u1 _ _ ?_;clear u1 K1;refine sR C1d ?_;exact aR
theorem G0i (p:Prog)(h:p.Sm)(ht:∀ d,d∈p.decls→d.Tl)(hr:p.right=true)(c:CallT)(hc:c.Ni):A0a prog 14 [prV p,caV c] (sgR (A6g p c)):=by
 have hn:=D4z p h;have ha:=B7g p h ht hr c hc;cases ho:A6g p c with
 | none =>
  rw [ho] at ha;unfold sgR at *;refine cB func14 ?_;refine sR [0,1,2,3,4,5] ?_
  (refine sG [0,1,2,3,4,5] [] 6 [] fun K z=>?_;refine ev ?_;refine cc hn ?_;refine cc ha ?_;apply z;clear z K)
  exact aR
 | some s =>
  rw [ho] at ha;unfold sgR at *;refine cB func14 ?_;refine sR [0,1,2,3,4,5] ?_
  (refine sG [0,1,2,3,4,5] [] 6 [] fun K z=>?_;refine ev ?_;refine cc hn ?_;refine cc ha ?_;apply z;clear z K)
  exact aR
abbrev C3t:List Nat:=[0,1,2,3,4,5,6,7,8,9,10,11,33,64,900]
theorem D3f (p:Prog)(h:p.Sm)(ht:∀ d,d∈p.decls→d.Tl)(hr:p.right=true)(c:CallT)(hc:c.Ni):A0a prog 33 [prV p,caV c] (sgR (A6g p c)):=by
 have hset:=B2e h ht hr hc.sm.on hc.on.args;have hS:=B4t p h [] (by simp) (by simp) c.on hc.sm.on;have hlen:=A3h h [] c.on;have hF:=A5v (A3o p [] c.on) c.name hlen;unfold A6g G0c;have hmem:=@A9e (A3o p [] c.on) c.name;rw [show B0h (fun s:Sig=>decide (s.name=c.name)) (A3o p [] c.on)=A3j (A3o p [] c.on) c.name from rfl] at hF;generalize A3o p [] c.on=l at *;generalize A3j l c.name=n at *;by_cases h0:n < 0
 ·rw [if_pos h0];refine cB func33 ?_;refine sR C3t ?_;refine sC hS C3t ?_;refine sC hF C3t ?_;refine sK fun K1 u1=>?_
  (refine sG C3t [] 12 [] fun K z=>?_;refine ev1 h0 ?_;apply z;clear z K)
  refine tI ?_;refine sR C3t ?_;exact aR
 rw [if_neg h0];obtain⟨s,hs,hsl⟩:=hmem h0;have hn0:0≤n:=by omega
 have hnl:n < l.length:=by have:=(List.getElem?_eq_some_iff.1 hs).1;omega
 rw [hs,Option.getD_some];have hsn:=hset s hsl;by_cases hl:s.formals.length=c.targs.length;rotate_left
 ·have hl':¬ (s.formals.length:Int)=(c.targs.length:Int):=by omega
  rw [if_neg hl];refine cB func33 ?_;refine sR C3t ?_;refine sC hS C3t ?_;refine sC hF C3t ?_;refine sK fun K1 u1=>?_
  (refine sG C3t [] 12 [] fun K z=>?_;refine ev1 h0 ?_;refine⟨by omega,_,A0n hs,rfl,?_⟩;(try refine ev1 hl' ?_);apply z;clear z K)
  refine tI ?_;refine sR C3t ?_;exact aR
 rw [if_pos hl];have hl':(s.formals.length:Int)=(c.targs.length:Int):=by omega
 have hnm:=A1u s.formals hsn.sm.formals.1;rw [show s.formals.map (·.name)=A0d s.formals from rfl] at hnm;have hM:=B1y c.name hc.sm.name c.targs hc.sm.targs.1 (fun t h=>(hc.targs t h).mg) (by have:=hc.tl;omega);have hsr:=A2j (A0d s.formals) c.targs hc.sm.targs.2 s.result hsn.sm.result;have hq:=Sig.Ni.subst (v:=A0d s.formals) (by decide:4≤12000) hc.targs hc.sm.targs.2 hsn;have hP:=A7h (s.result.subst (A0d s.formals) c.targs) hq.result.mg (Nat.le_trans hq.result.len (by decide));have hpl:=hsn.params.1;have hpp:=hsn.params.2;have hps:=hsn.sm.params.2;have e1:B9m c s=⟨mgM c.name c.targs,[],A8w (s.params.map (Param.subst (A0d s.formals) c.targs)),plT (s.result.subst (A0d s.formals) c.targs),0⟩:=rfl;rw [e1];generalize s.result.subst (A0d s.formals) c.targs=rt at *;generalize mgM c.name c.targs=nm at *;generalize hNN:A0d s.formals=nn at *;refine cB func33 ?_;refine sR C3t ?_;refine sC hS C3t ?_;refine sC hF C3t ?_;refine sK fun K1 u1=>?_
 (refine sG C3t [] 12 [] fun K z=>?_;refine ev1 h0 ?_;refine⟨by omega,_,A0n hs,rfl,?_⟩;(try refine ev1 hl' ?_);apply z;clear z K)
 refine kI u1 ?_;clear u1 K1
 (refine sV C3t fun K z=>?_;refine ci (A0n hs) ?_;refine cc hnm ?_;apply z;clear z K)
 (refine sG C3t [] 17 [⟨[],[],[9],[9]⟩,⟨[],[],[9],[9]⟩,⟨[],[],[9],[9]⟩,⟨[],[],[9],[9]⟩,⟨[],[],[9],[9]⟩,⟨[],[],[9],[9]⟩,⟨[],[],[9],[9]⟩,⟨[],[],[9],[9]⟩,⟨[],[],[9],[9]⟩,⟨[],[],[9],[9]⟩,⟨[],[],[9],[9]⟩,⟨[],[],[9],[9]⟩,⟨[],[],[9],[9]⟩,⟨[],[],[9],[9]⟩,⟨[],[],[9],[9]⟩,⟨[],[],[9],[9]⟩,⟨[9],[9],[],[]⟩] fun K z=>?_;refine ev ?_;refine cc hM ?_;refine ci (A0n hs) ?_;refine cc hsr ?_;refine cc hP ?_;apply z;clear z K)
 refine AWp.promoteBox 900 5 9 2 rfl rfl (by decide) ?_;refine kR C3t fun K1 u1=>?_;refine AWp.bb (AWp.ii s.params (X:=Unit) (fun j _=>[(3,.box 3 0),(4,.box 4 0),(6,.d (.slice (siR l))),(7,A0g n),(8,A1m nn),(9,.box 9 0),(10,A0g j)])
  (fun j _=>[(3,.cells (caS c)),(4,.cells [.d (.str []),.d .nil,.d .nil,.d (.str []),.d .nil,.d (.int .i64 0),.d (.int .i64 0)]),(9,.cells (agS nm rt.mg (.acc 900))),(900,.rows 5 (paR (A8w ((s.params.take j).map (Param.subst nn c.targs)))))])
  (fun _ _=>True) () trivial sS (by simp [ble,A0h,paR,A8w];exact⟨rfl,rfl,rfl⟩) ?_ ?_)
 rotate_left
 ·intro j _ d hd hmem dp tk hlt _;have hj:=(List.getElem?_eq_some_iff.1 hd).1;have hit:=B3e j (by unfold sm;omega);have hil:=Lib.itoa_length_le j (by omega) (by omega);rw [← A6p] at hit;have hdn:=Ty.Ni.subst (v:=nn) (by decide:4≤12000) hc.targs (hpp d hmem);have hds:=A2j nn c.targs hc.sm.targs.2 d.type (hps d hmem).type;have hdp:=A7h (d.type.subst nn c.targs) hdn.mg (by have:=hdn.len;omega);have hd2:(s.params.map (Param.subst nn c.targs))[j]? = some (Param.subst nn c.targs d):=by rw [List.getElem?_map,hd];rfl
  have e2:paR (A8w ((s.params.take (j+1)).map (Param.subst nn c.targs)))=paR (A8w ((s.params.take j).map (Param.subst nn c.targs)))++[paC ⟨[112]++Lib.itoa (j:Nat),plT (d.type.subst nn c.targs),0⟩]:=by rw [List.map_take,B6j hd2,List.map_take];simp [paR,Param.subst]
  have e3:(paR (A8w ((s.params.take j).map (Param.subst nn c.targs)))).length=j:=by rw [B0o,B0e,List.length_map,List.length_take];omega
  rw [e2];generalize paR (A8w ((s.params.take j).map (Param.subst nn c.targs)))=PR at *;generalize d.type.subst nn c.targs=dt at *;generalize Lib.itoa (j:Nat)=ds at *;refine sK fun K2 u2=>?_
  (refine sV C3t fun K z=>?_;refine⟨by omega,_,A0n hs,rfl,?_⟩;(try refine ev1 hlt ?_);apply z;clear z K)
  refine gI u2 ?_;clear u2 K2;refine sK fun K2 u2=>?_;refine AWp.bb ?_
  (refine sG C3t [] 14 [⟨[],[],[11],[11]⟩,⟨[],[],[11],[11]⟩,⟨[],[],[11],[11]⟩,⟨[],[],[11],[11]⟩,⟨[],[],[11],[11]⟩,⟨[],[],[11],[11]⟩,⟨[],[],[11],[11]⟩,⟨[],[],[11],[11]⟩,⟨[],[],[11],[11]⟩,⟨[],[],[11],[11]⟩,⟨[],[],[11],[11]⟩,⟨[],[],[11],[11]⟩,⟨[],[],[11],[11]⟩,⟨[11],[11],[],[]⟩] fun K z=>?_;refine ev ?_;refine ci (A0n hs) ?_;refine ci (A0r hd) ?_;refine cc hds ?_;apply z;clear z K)
  (refine lG C3t [] 9 [] fun K z=>?_;refine ev ?_;refine cc hit ?_;refine⟨by (try simp only [List.length_append,List.length_cons,List.length_nil]);unfold lim;omega,?_⟩;(try refine ev1 e3 ?_);refine⟨_,.inl ⟨_,rfl,hdp,rfl⟩,?_⟩;(try refine ev1 e3 ?_);refine⟨by simp,by (try simp only [e3]);unfold lim;omega,?_⟩;(try refine ev1 e3 ?_);apply z;clear z K;try simp only [A0c,A0e])
  refine u2 _ _ ?_;clear u2 K2
  (refine lV C3t fun K z=>?_;refine cl ?_;apply z;clear z K;try simp only [A0c,])
  exact⟨(),trivial,sS,by simp [ble,A0h,paC]⟩
 intro _ _;rw [List.take_length];refine sK fun K2 u2=>?_
 (refine sV C3t fun K z=>?_;refine⟨by omega,_,A0n hs,rfl,?_⟩;(try refine ev1 Int.lt_irrefl ?_);apply z;clear z K)
 refine AWp.ss rfl ?_;simp only [TB];refine u1 _ _ ?_;clear u2 K2 u1 K1;refine sR C3t ?_;exact aR
end Go.Abs
