/- set.sorted: by the shelf's contracts on maps.Keys and slices.Sorted -/
import Derived.Test.YtieakoebgfiniaaGreatDoorZF20
import Derived.Test.YtieakoebgfiniaaGreatDoorZIterP
set_option linter.all false
set_option maxHeartbeats 1000000
set_option maxRecDepth 100000
namespace Go.Proofs
open Go.RowKit Go.Maps Go.Sort Go.Shelf Tryz Go.Abs
def G0d(m:Nat):AnyZ.SortsIn Tryz.prog Tryz.D6q Fence.wide m :=
 ⟨λJ off cap ss W L E I=>callsIn_wide.2 (AnyM.slices_Sort_string Tryz.D3s J off cap ss W L E I),
  λp cap W=>callsIn_wide.2 (AnyM.slices_Sort_string_none Tryz.D3s p cap W)⟩
def G2v(mb:Option Nat)(W:World):CallsIn Fence.wide 5 Tryz.prog 331 #[.map mb] W λe w'=>e=.returned (.func (.func 336) #[] #[.pointer (some ⟨W.heap.size,0,none⟩)])/\w'=W.alloc (.cells #[.map mb] 342) :=
 AnyZ.keys_in Tryz.E7o Fence.wide 5 trivial rfl mb W
def G5z{H:Type}(b nn:Nat)(J:DataW H)(R:Value->Option (DataW H × List MemPlace))(w:World)(E:w.ownsMap Tryz.prog 9 R b nn J)(L:Maps.size J<=maxLen)(B0w:Maps.size J*16<=140737488355328) :
  CallsIn Fence.wide 5 Tryz.prog 330 #[.func (.func 336) #[] #[.pointer (some ⟨w.heap.size,0,none⟩)]] (w.alloc (.cells #[.map (some b)] 342)) λe w'=>∃(v:Value) (ss:List (List UInt8)),e=.returned v/\ss.Perm (strKeys J) /\
   w'.ownsRow (w.alloc (.cells #[.map (some b)] 342)).heap.size 9 1 v ss.length ((ss.mergeSort (λx y=>decide (x<=y))).map encStr)/\(v=.slice none 0 0↔ss=[])/\Below (w.alloc (.cells #[.map (some b)] 342)).heap.size (w.alloc (.cells #[.map (some b)] 342)) w':=by
 have U:=E.lt;have O:SeqGives Fence.wide 2 Tryz.prog 336 #[.pointer (some ⟨w.heap.size,0,none⟩)] encStr (λss=>ss.Perm (strKeys J)) (Maps.size J) (w.alloc (.cells #[.map (some b)] 342)) :=
  AnyZ.keys_gives (ρ:=Tryz.E5g) { Tryz.E7o with } Fence.wide _ trivial rfl (by omega) w.heap.size b nn J _ (by simp) (by simp) (by obtain⟨es,I,Z,V,hs,W⟩:=E;exact⟨es,I,(Below.heap_alloc _ _ b U).trans Z,V,hs,W⟩)
 exact AnyZ.sorted_in Tryz.G6y Fence.wide 5 trivial trivial trivial trivial rfl (by omega) (G0d _) (enters_of func335 (by kernel_rfl) rfl) 336 #[.pointer (some ⟨w.heap.size,0,none⟩)] trivial (enters_of func336 (by kernel_rfl) rfl) _ _ L B0w _ O
def H2u{H:Type}(b nn:Nat)(O:DataW H)(R:Value->Option (DataW H × List MemPlace))(w:World)(I:w.ownsMap Tryz.prog 9 R b nn O)(J:Maps.size O<=maxLen)(B0w:Maps.size O*16<=140737488355328) :
  Calls Tryz.prog 314 #[.map (some b)] w λe w'=>∃(v:Value) (ss:List (List UInt8)),e=.returned v/\ss.Perm (strKeys O) /\
   w'.ownsRow w.heap.size 9 1 v ss.length ((ss.mergeSort (λx y=>decide (x<=y))).map encStr)/\(v=.slice none 0 0↔ss=[])/\Below w.heap.size w w':=by
 refine(callsIn_wide (n:=6)).1 ?_;have U:Fence.wide.fn 331:=trivial;have V:Fence.wide.fn 330:=trivial;refine callsIn_of_wp func314 rfl trivial ?_ rfl;simp only[ntmps314,List.size_toArray,Bg,Ca,Nat.reduceAdd,Nat.reduceSub,Array.replicate_succ,Array.replicate_zero,List.push_toArray,List.append_toArray,Vi,Jq]
 gi_wp2_with (first
  |(gi_at_call 331;refine(G2v _ _).mono ?_;rintro e w' ⟨rfl,rfl⟩)
  |(gi_at_call 330;refine(G5z b nn O R w I J B0w).mono ?_;rintro e w' ⟨v,ss,rfl,Z,L,E,W⟩))
 go_ret
 exact⟨v,ss,rfl,Z,ownsRow_base_a L (by simp),E,((Below.refl _ w).alloc (Bs _) _).trans (W.mono (by simp))⟩
end Go.Proofs
namespace Go.Abs
open Go Go.Proofs Tryz
def B1b:Value->Option (DataW Unit × List MemPlace):=λ_=>some (.nil,[])
def E7s{S:Nat->Prop}{w:World}:∀(l:List A2)(es:List MapEntry),es.length=l.length->(∀(i:Nat)(kv:D × D)(e:MapEntry),(A8y l)[i]?=some kv->es[i]?=some e->Bu S w kv.1 e.key) ->
  es.map (·.key)=l.map encStr/\∀s,s∈l->s.length<=lim
 |[],[],_,_=>by simp
 |[],_::_,h,_=>by simp at h
 |_::_,[],h,_=>by simp at h
 |s::l,e::es,h,I=>by
  have J:=E7s l es (by simpa using h) (λi kv x O U=>I (i+1) kv x (by simpa [A8y]using O) (by simpa using U));have L:Bu S w (.str s) e.key:=I 0 (.str s,.bool true) e rfl rfl;generalize E:e.key=k at L;cases L with
  |str _ V =>
   refine⟨?_,?_⟩
   .simp only[Ck,E,J.1];rfl
   .intro x hx;rcases B1.1 hx with rfl|hx
    .exact V
    .exact J.2 x hx
def G3c(E:List (Lit × DataW Unit)):(strKeys (.map (E.foldr DataW.insert []))).Perm (E.map λp=>strOf p.1) :=
 (Go.WideShapes.sorted_perm E).map _
def E6g{α β:Type}{f:α->β}(E:∀a b,f a=f b->a=b):∀{l m:List α},l.map f=m.map f->l=m
 |[],[],_=>rfl
 |[],_::_,h=>by simp at h
 |_::_,[],h=>by simp at h
 |a::l,b::m,h=>by simp only[Ck,Z2]at h;rw[E a b h.1,E6g E h.2]
def G0n{S:Nat->Prop}{w:World}{l:List A2}(hn:l.Nodup)(hl:l.length<=sm){v:Value}(h:Bu S w (.map (A8y l)) v) :
  ∃b D0,v=.map (some b)/\w.ownsMap Tryz.prog 9 B1b b l.length D0/\Go.Maps.size D0=l.length/\(strKeys D0).Perm l:=by
 cases h with
 |map _ r es I hr hh hs h1 h2 =>
  have E:es.size=l.length:=by rw[hs.1];simp[A8y]
  obtain⟨hk,V⟩:=E7s l es.toList (by simpa using E) (λi kv e Z he=>h1 i kv e Z (by simpa using he));have hu:Tryz.prog.underlying 9=some .string:=Ka.2.2.2.2.1;have W:∀x,x∈es.toList->∃s,s∈l/\x.key=encStr s/\Go.WideElems.rd Tryz.prog 9 B1b x=some (.string s,.nil):=by
   intro x L;have:x.key∈l.map encStr:=by rw[<-hk];exact List.mem_map_of_mem L
   obtain⟨s,O,U⟩:=Au.1 this;refine⟨s,O,U.symm,?_⟩;have a0:=V s O;have hm:s.length<=maxLen:=Cp a0 (by decide);simp[Go.WideElems.rd,<-U,encStr,keyOf,hu,mapKey,ByteArray.size,hm,B1b]
  refine⟨r,_,rfl,⟨es,I,hh,⟨by rw[E];exact Cp hl (by decide),⟨hs.2.1,hs.2.2,?_⟩,λx L=>?_⟩,Nat.le_of_eq E,rfl⟩,?_,?_⟩
  .rw[hk];exact List.Pairwise.map _ (λa b J he=>J (encStr_inj he)) hn
  .obtain⟨s,_,_,h3⟩:=W x L;exact⟨_,h3⟩
  .show(List.foldr DataW.insert [] _).length=_;rw[(Go.WideShapes.sorted_perm _).length_eq];simpa using E
  .refine(G3c _).trans ?_;rw[Ff];have:es.toList.map ((λp:Lit × DataW Unit=>strOf p.1) ∘ Go.WideElems.rg Tryz.prog 9 B1b)=l:=by
    apply E6g (f:=encStr) (λa b J=>encStr_inj J);rw[Ff,<-hk];apply Ie;intro x L;obtain⟨s,_,h2,h3⟩:=W x L;simp[Function.comp,Go.WideElems.rg,h3,strOf,h2]
   rw[this]
def G9m:H5j:=by
 intro l hn hl a1;refine⟨Enters.of func314 rfl (by decide),?_⟩;intro C β vs hi W;have a7:=W.2;have a4:=W.1
 match vs,a4 with
 |[v],_ =>
 have hr:=(a7 0 _ v rfl rfl).Ij;obtain⟨b,D0,rfl,Z,af,J⟩:=G0n hn hl hr;have hs:Go.Maps.size D0<=sm:=by omega
 refine(H2u b l.length D0 B1b C.w0 Z (Cp hs (by decide)) (by unfold sm at hs;omega)).mono ?_;rintro e w' ⟨v,ss,rfl,hS,E,ac,O⟩;have ab:ss.mergeSort (λx y=>decide (x<=y))=Qp l:=mergeSort_of_perm (hS.trans J);rw[ab]at E;have ad:ss.length=l.length:=(hS.trans J).length_eq;obtain⟨h1,h2⟩:=E;have a8:(Bq (Qp l)).length=l.length:=by simp[Bq,E6u]
 have I:∀row,row∈Bq (Qp l)->row.length=1:=by intro row E;simp only[Bq,Au]at E;obtain⟨s,_,rfl⟩:=E;rfl
 have U:∀row,row∈Bq (Qp l)->∀d,d∈row->d.one=true:=by intro row E d hd;simp only[Bq,Au]at E;obtain⟨s,_,rfl⟩:=E;simp at hd;subst hd;rfl
 have a2:(Bq (Qp l)).length<=lim:=by rw[a8];exact Cp hl (by decide)
 rcases h2 with⟨rfl,h3⟩|⟨g,cap,a5,rfl,aa,hg,a3,ae,a',a9⟩
 .obtain⟨p1,_⟩:=hi.Tb (k:=0) (w':=w') (c:=.rows 1 (Bq (Qp l))) { base:=none,sz:=1 } (by decide) (by simp) (λb L _=>O.block b L) O.os O.tape O.output O.size (λ_ =>
   ⟨rfl,by simp only;omega,by simp,a2,I,U,rfl⟩)
  refine⟨_,_,_,rfl,p1.sub (by simp),?_⟩;have:=Am.acc (S:=C.S0) (w:=w') (β:=Ed β 0 { base:=none,sz:=1 }) 0;rw[Gw]at this;exact this
 .have a6:g<w'.heap.size:=(Uq.1 hg).1;obtain⟨p1,_⟩:=hi.Tb (k:=0) (w':=w') (c:=.rows 1 (Bq (Qp l))) { base:=some g,len:=ss.length,cap:=cap,sz:=1 } (by decide) (by
    intro b L;cases L;exact⟨λh=>by have:=hi.Bw _ h;omega,a6,.inl aa⟩) (λb L _=>O.block b L) O.os O.tape O.output O.size (λ_=>by
   refine⟨rfl,by simp only;omega,a3,a2,I,U,9,a5.toList,hg,by simp[a'],?_⟩;intro r j row d v hr hd W;have hj:j=0:=by have:=I row (C6 hr);have:=(Az.1 hd).1;omega
   subst hj;simp only[Bq,Df,Jv]at hr;obtain⟨s,V,rfl⟩:=hr;simp only[Xg,B5]at hd;subst hd;simp only[Ky,Nat.mul_one,Ma]at W;have a0:=(Az.1 V).1;rw[E6u]at a0;have h4:(a5.toList.take (ss.length*1))[r]?=some v:=by rw[An5 (by omega)];exact W
   rw[a9,Df,V]at h4;simp only[Ez,B5]at h4;subst h4;exact .str s (a1 s (H4o.1 (C6 V))))
  refine⟨_,_,_,rfl,p1.sub (by simp),?_⟩;have:=Am.acc (S:=C.S0) (w:=w') (β:=Ed β 0 { base:=some g,len:=ss.length,cap:=cap,sz:=1 }) 0;rw[Gw]at this;simpa using this
def fieldsOf(p:Prog)(nm:A2):List Param:=match p.decls.find? (λd=>d.Fv nm)with
 |some d=>if d.kind=1 then d.fields else[]
 |none=>[]
inductive Way(p:Prog)(nm:A2):A2->Prop where
 |one {x:A2}:x∈A6x p nm->Way p nm x
 |more {y x:A2}:Way p nm y->x∈A6x p y->Way p nm x
def Way.trans{p:Prog}{a b c:A2}(h:Way p a b)(k:Way p b c):Way p a c:=by
 induction k with
 |one E=>exact .more h E
 |more _ E I=>exact .more I E
def Way.isS{p:Prog}{a b:A2}(h:Way p a b):kindOf p b=1:=by
 cases h with
 |one h=>exact(Cz.A6x p a).isS b h
 |more _ h=>exact(Cz.A6x p _).isS b h
end Go.Abs
