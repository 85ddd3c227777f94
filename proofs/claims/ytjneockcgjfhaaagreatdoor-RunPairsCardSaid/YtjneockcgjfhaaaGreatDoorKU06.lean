/- castingsref21.Size, large -/
import Derived.Test.YtjneockcgjfhaaaGreatDoorKU01
import Derived.Test.YtjneockcgjfhaaaGreatDoorKS95
set_option linter.all false
set_option maxHeartbeats 4000000
set_option maxRecDepth 100000
namespace Go.Abs
open Go Go.Proofs Tryz
def Eu(s:Am):Nat:=s.types.length+s.calls.length
def E4j(s:Am)(hs:s.Sm):Ab prog 18 [Ke s] (A7 (Eu s)):=by
 have I:=hs.types.1;have J:=hs.calls.1;have E:((Eu s:Nat):Int)=(s.types.length:Int)+s.calls.length:=by unfold Eu;omega
 rw[E];refine cB func18 ?_;refine sR [0,1,2] ?_;refine sQ [0,1,2] λK z=>?_;simp -implicitDefEqProofs only[EV,Nat.reduceEqDiff,reduceCtorEq,TFA,Gn];refine⟨by first| (unfold B7;omega)| (simp only[B7,sm]at*;omega),?_⟩;apply z;clear z K;exact aR
def Vm(s:Am):Bool:=s.types.any (λt=>decide (60<t.count 0)) ||(s.calls.any (λc=>decide (60<(Ty.mk [] c.targs 0).count 0)) ||(s.D9 ||decide (60<Eu s)))
abbrev Pa:List Nat:=[0,1,2,3,4,9,18,23,34]
def F0e(s:Am)(hs:s.Sm):Ab prog 19 [Ke s] (B1 (Vm s)):=by
 have h1:=hs.types.1;have h2:=hs.calls.1;have hz:=E4j s hs;unfold Vm;generalize Eu s=z at*;refine cB func19 ?_;refine sR Pa ?_;refine kR Pa λK1 u1=>?_;refine A0.bb (A0.ii s.types (X:=Unit) (λj _=>[(1,.box 1 0),(3,A7 j)]) (λj _=>[(1,.cells (Jg s))]) (λj _=>s.types.any (λt=>decide (60<t.count 0))=(s.types.drop j).any (λt=>decide (60<t.count 0))) () rfl sS sB ?_ ?_)
 rotate_left
 .intro j _ u hu Z dp tk U I;have W:=A2u u 0 (by decide) (by decide);rw[dp,List.any_cons]at I;generalize u.count 0=k at*;refine Ae U Pa λL u2=>?_;refine gI u2 ?_;clear u2 L;refine sK λL u2=>A0.bb ?_;by_cases J:60<k
  .have E:k > 60:=J;rw[I,Cc J,Vn,Vn]
   (refine sV Pa λK z=>?_;refine ci (Ev hu) ?_;refine⟨_,.inl ⟨_,rfl,W,rfl⟩,?_⟩;(try refine Ah E ?_);apply z;clear z K)
   refine A0.tt rfl<|sR Pa ?_;exact aR
  .have E:¬k > 60:=J;rw[Cu J,W7]at I
   (refine sV Pa λK z=>?_;refine ci (Ev hu) ?_;refine⟨_,.inl ⟨_,rfl,W,rfl⟩,?_⟩;(try refine Ah E ?_);apply z;clear z K)
   refine A0.ff rfl (A0.kk (u2 _ _ ?_));clear u2 L;refine lT Pa ?_;exact⟨(),I,sS,by simp[ble,A8]⟩
 intro _ I;rw[D3,List.any_nil]at I;rw[I,W7]at u1 |-;clear I;refine Ae B6 Pa λL u2=>?_;refine A0.ss rfl ?_;simp only[A5,A9,Ac];refine u1 _ _ ?_;clear u1 K1 u2 L;refine kR Pa λK1 u1=>?_;refine A0.bb (A0.ii s.calls (X:=Unit) (λj _=>[(1,.box 1 0),(4,A7 j)]) (λj _=>[(1,.cells (Jg s))]) (λj _=>s.calls.any (λc=>decide (60<(Ty.mk [] c.targs 0).count 0))=(s.calls.drop j).any (λc=>decide (60<(Ty.mk [] c.targs 0).count 0))) () rfl sS sB ?_ ?_)
 rotate_left
 .intro j _ u hu Z dp tk U I;have W:=A2u (.mk [] u.targs 0) 0 (by decide) (by decide);rw[dp,List.any_cons]at I;generalize(Ty.mk [] u.targs 0).count 0=k at*;refine sK λL u2=>?_
  (refine sQ Pa λK z=>?_;simp -implicitDefEqProofs only[EV,Nat.reduceEqDiff,reduceCtorEq,TFA,U,Gn];apply z;clear z K)
  refine gI u2 ?_;clear u2 L;refine sK λL u2=>A0.bb ?_;by_cases J:60<k
  .have E:k > 60:=J;rw[I,Cc J,Vn,Vn]
   (refine sV Pa λK z=>?_;refine⟨by omega,_,Jq hu,rfl,?_⟩;(try simp -implicitDefEqProofs only[EV,Nat.reduceAdd,Nat.reduceEqDiff,Nat.reduceLeDiff,reduceCtorEq,TFA,G6]);refine⟨_,.inl ⟨_,rfl,W,rfl⟩,?_⟩;(try refine Ah E ?_);apply z;clear z K)
   refine A0.tt rfl<|sR Pa ?_;exact aR
  .have E:¬k > 60:=J;rw[Cu J,W7]at I
   (refine sV Pa λK z=>?_;refine⟨by omega,_,Jq hu,rfl,?_⟩;(try simp -implicitDefEqProofs only[EV,Nat.reduceAdd,Nat.reduceEqDiff,Nat.reduceLeDiff,reduceCtorEq,TFA,G6]);refine⟨_,.inl ⟨_,rfl,W,rfl⟩,?_⟩;(try refine Ah E ?_);apply z;clear z K)
   refine A0.ff rfl (A0.kk (u2 _ _ ?_));clear u2 L;refine lT Pa ?_;exact⟨(),I,sS,by simp[ble,A8]⟩
 intro _ I;rw[D3,List.any_nil]at I;rw[I,W7]at u1 |-;clear I;refine sK λL u2=>?_
 (refine sQ Pa λK z=>?_;simp -implicitDefEqProofs only[EV,Nat.reduceEqDiff,reduceCtorEq,TFA,B6,Gn];apply z;clear z K)
 refine A0.ss rfl ?_;simp only[A5,A9,Ac];refine u1 _ _ ?_;clear u1 K1 u2 L;have a0:s=⟨s.types,s.calls,s.D9⟩:=rfl;cases O:s.D9 with
 |true =>rw[Vn];refine Ap O Pa ?_;exact aR
 |false =>
  rw[W7];have V:Ab prog 18 [.agg [.d (.slice (Ag s.types)),.d (.slice (N8 s.calls)),.d (.bool false)]] (A7 z):=by rw[<-O];exact hz
  by_cases J:60<z
  .have E:(z:Int) > 60:=by omega
   rw[Cc J];refine sQ Pa λK z=>?_;refine Ah O ?_;refine⟨_,.inl ⟨_,rfl,V,rfl⟩,?_⟩;(try refine Ah E ?_);apply z;clear z K;exact aR
  .have E:¬(z:Int) > 60:=by omega
   rw[Cu J];refine sQ Pa λK z=>?_;refine Ah O ?_;refine⟨_,.inl ⟨_,rfl,V,rfl⟩,?_⟩;(try refine Ah E ?_);apply z;clear z K;exact aR
def C4s{α:Type}{cmp:α->α->Int}{x:α}:∀{l:List α} {done:Bool} {out R:List α},Fy cmp x l done out=some R->R.length<=out.length+l.length+(if done=true then 0 else 1)/\∀t,t∈R->t=x\/t∈l\/t∈out
 |[],done,out,R,h=>by rw[Fy]at h;cases h;cases done;simp;intro t ht;rcases ht with h|h <;> simp[h];simp;intro t ht;simp[ht]
 |t::l,done,out,R,h=>by
  rw[Fy]at h;split at h;cases h;split at h
  .obtain⟨J,E⟩:=C4s h;refine⟨by clear E;cases done <;> simp_all <;> omega,λu I=>?_⟩;rcases E u I with h3|h3|h3;exact .inl h3;exact .inr (.inl (by simp[h3]));simp only[C6,B5,Fb,Fg]at h3;rcases h3 with h3|h3|h3;exact .inr (.inr h3);exact .inl h3;exact .inr (.inl (by simp[h3]))
  .obtain⟨J,E⟩:=C4s h;refine⟨by clear E;cases done <;> simp_all <;> omega,λu I=>?_⟩;rcases E u I with h3|h3|h3;exact .inl h3;exact .inr (.inl (by simp[h3]));simp only[C6,B5,Fb,Fg]at h3;rcases h3 with h3|h3;exact .inr (.inr h3);exact .inr (.inl (by simp[h3]))
def A4a{α:Type}{cmp:α->α->Int}{x:α}(l:List α):(Iu cmp l x).length<=l.length+1/\∀t,t∈Iu cmp l x->t=x\/t∈l:=by
 unfold Iu;cases h:Fy cmp x l false []with
 |none=>exact⟨by simp,λt ht=>.inr ht⟩
 |some R =>obtain⟨E,I⟩:=C4s h;refine⟨by simpa using E,λt ht=>?_⟩;rcases I t ht with h3|h3|h3;exact .inl h3;exact .inr h3;simp at h3
def A3x{s:Am}(hs:s.Sm){x:Ty}(E:x.Sm):(Gr s x).Sm:=by unfold Gr;split;exact⟨hs.types,hs.calls⟩;rename_i h;obtain⟨J,I⟩:=A4a (cmp:=E6) (x:=x) s.types;refine⟨⟨by simp only;unfold sm;omega,λt ht=>?_⟩,hs.calls⟩;rcases I t ht with rfl|h3;exact E;exact hs.types.2 t h3
def C1v{s:Am}(hs:s.Sm){x:B8}(E:x.Sm):(Gp s x).Sm:=by unfold Gp;split;exact⟨hs.types,hs.calls⟩;rename_i h;obtain⟨J,I⟩:=A4a (cmp:=Dk) (x:=x) s.calls;refine⟨hs.types,⟨by simp only;unfold sm;omega,λt ht=>?_⟩⟩;rcases I t ht with rfl|h3;exact E;exact hs.calls.2 t h3
def U6(s:Am)(e:Ex)(z:Ty × F6):Am:=if z.2.bad=true then{ s with D9:=s.D9 ||z.2.D9 } else Gp (Gr { s with D9:=s.D9 ||z.2.D9 } z.1) ⟨z.1,e.name,e.targs⟩
def L0(p:Prog)(vars:List Param)(s:Am)(e:Ex):Am:=if e.kind=3\/e.kind=5 then Gr s e.type else if e.kind=2 then(match e.kids with
 |[]=>s
 |v::_=>U6 s e (Df ⟨p,false,[],vars⟩ v))else s
def Nk(p:Prog)(s:Am)(e:Ex)(vars:List Param):Am:=(Cj e).foldl (L0 p vars) s
def F2k{s:Am}(hs:s.Sm){e:Ex}(I:e.Sm){z:Ty × F6}(J:z.1.Sm):(U6 s e z).Sm:=by unfold U6;have E:Am.Sm { s with D9:=s.D9 ||z.2.D9 }:=⟨hs.types,hs.calls⟩;split;exact E;exact C1v (A3x E J) ⟨J,I.name,I.targs⟩
def E6f{p:Prog}{vars:List Param}(J:D8.Sm ⟨p,false,[],vars⟩){s:Am}(hs:s.Sm){e:Ex}(E:e.Sm):(L0 p vars s e).Sm:=by unfold L0;split;exact A3x hs E.type;split;split;exact hs;rename_i v vs I;exact F2k hs E (B3t J v (E.kids.2 v (by rw[I];simp)));exact hs
def C7h{p:Prog}{vars:List Param}(E:D8.Sm ⟨p,false,[],vars⟩):∀(l:List Ex) {s:Am},s.Sm->(∀x,x∈l->x.Sm)->(l.foldl (L0 p vars) s).Sm
 |[],_,hs,_=>hs
 |e::l,_,hs,h=>C7h E l (E6f E hs (h e (by simp))) λx I=>h x (by simp[I])
abbrev Jb:List Nat:=[0,1,2,3,4,5,6,8,9,10,11,12,18,34,47,71]
def E4p(p:Prog)(vars:List Param)(hc:D8.Sm ⟨p,false,[],vars⟩)(s:Am)(hs:s.Sm)(e:Ex)(he:e.Sm)(a9:e.Ft)(hl:(Cj e).length<=sm) :Ab prog 17 [Cq p,Ke s,Bg e,.d (.slice (Ay vars))] (Ke (Nk p s e vars)):=by
 have h1:=D2v e hl;have a1:=A8y (Q:=λx=>x.Sm/\x.Ft) (λe h x hx=>⟨h.1.kids.2 x hx,h.2.kids x hx⟩) e ⟨he,a9⟩;have hR:∃R,Nk p s e vars=R:=⟨_,rfl⟩;obtain⟨R,hR⟩:=hR;rw[hR];unfold Nk at hR;generalize Cj e=l at*;refine cB func17 ?_;refine sR Jb ?_;refine sC h1 Jb ?_;refine kR Jb λK1 u1=>?_;refine A0.bb (A0.ii l (X:=Am) (λj s=>[(3,.d (.slice (Ay vars))),(4,.box 4 0),(5,.box 5 0),(6,.box 6 0),(8,.box 8 0),(9,.d (.slice (Bj l))),(10,A7 j)]) (λj s=>[(4,.cells ((Ai p).map .d)),(5,.cells (Jg s)),(6,.cells (D5 e)),(8,.cells [.d .nil,.d .nil,.d (.bool false)])]) (λj s=>(l.drop j).foldl (L0 p vars) s=R/\s.Sm) s ⟨hR,hs⟩ sS (by simp[ble,A8,Ai]) ?_ ?_);rotate_left
 .intro j s u J a8 dp tk a' I;obtain⟨I,L⟩:=I;obtain⟨O,a5⟩:=a1 u a8;have E:=E6f hc L O;rw[dp,Mr]at I;refine Ae a' Jb λZ u2=>?_;refine gI u2 ?_;clear u2 Z;refine sK λZ u2=>A0.bb<|sK λK3 u3=>?_;by_cases k3:u.kind=3
  .have d3:decide (u.kind=3)=true:=Cc k3;have n2:¬u.kind=2:=by omega
   have U:=B0k s L u.type O.type;have V:L0 p vars s u=Gr s u.type:=by unfold L0;rw[A6 (.inl k3)]
   rw[V]at I E;clear V;generalize Gr s u.type=s2 at*
   (refine sV Jb λK z=>?_;refine⟨by omega,_,Ck J,rfl,?_⟩;(try refine Ah d3 ?_);apply z;clear z K)
   refine A0.tt rfl ?_
   (refine lG Jb [] 6 [] λK z=>?_;refine ev ?_;refine ci (Ck J) ?_;refine cc U ?_;apply z;clear z K;try simp only[A5,])
   refine u3 _ _ ?_;clear u3 K3
   (refine sV Jb λK z=>?_;refine⟨by omega,_,Ck J,rfl,?_⟩;(try refine Ah n2 ?_);apply z;clear z K)
   refine A0.ff rfl (A0.kk (u2 _ _ ?_));clear u2 Z;refine lT Jb ?_;exact⟨s2,⟨I,E⟩,sS,by simp[ble,A8,Ai]⟩
  by_cases k5:u.kind=5
  .have d5:decide (u.kind=5)=true:=Cc k5;have n2:¬u.kind=2:=by omega
   have U:=B0k s L u.type O.type;have V:L0 p vars s u=Gr s u.type:=by unfold L0;rw[A6 (.inr k5)]
   rw[V]at I E;clear V;generalize Gr s u.type=s2 at*
   (refine sV Jb λK z=>?_;refine⟨by omega,_,Ck J,rfl,?_⟩;(try refine Ah k3 ?_);refine⟨by omega,_,Ck J,rfl,?_⟩;(try refine Ah d5 ?_);apply z;clear z K)
   refine A0.tt rfl ?_
   (refine lG Jb [] 6 [] λK z=>?_;refine ev ?_;refine ci (Ck J) ?_;refine cc U ?_;apply z;clear z K;try simp only[A5,])
   refine u3 _ _ ?_;clear u3 K3
   (refine sV Jb λK z=>?_;refine⟨by omega,_,Ck J,rfl,?_⟩;(try refine Ah n2 ?_);apply z;clear z K)
   refine A0.ff rfl (A0.kk (u2 _ _ ?_));clear u2 Z;refine lT Jb ?_;exact⟨s2,⟨I,E⟩,sS,by simp[ble,A8,Ai]⟩
  (refine sV Jb λK z=>?_;refine⟨by omega,_,Ck J,rfl,?_⟩;(try refine Ah k3 ?_);refine⟨by omega,_,Ck J,rfl,?_⟩;(try refine Ah k5 ?_);apply z;clear z K)
  refine A0.ff rfl (A0.kk (u3 _ _ ?_));clear u3 K3;by_cases k2:u.kind=2;rotate_left
  .have V:L0 p vars s u=s:=by unfold L0;rw[A3 (by omega),A3 k2]
   rw[V]at I
   (refine sV Jb λK z=>?_;refine⟨by omega,_,Ck J,rfl,?_⟩;(try refine Ah k2 ?_);apply z;clear z K)
   refine A0.ff rfl (A0.kk (u2 _ _ ?_));clear u2 Z;refine lT Jb ?_;exact⟨s,⟨I,L⟩,sS,by simp[ble,A8,Ai]⟩
  have d2:decide (u.kind=2)=true:=Cc k2;obtain⟨v,hv⟩:=a5.some (.inl k2);have a2:=O.kids.2 v (Bm hv);have hT:=C3x ⟨p,false,[],vars⟩ hc v a2;have W:=B3t hc v a2;have V:L0 p vars s u=U6 s u (Df ⟨p,false,[],vars⟩ v):=by
   unfold L0;rw[A3 (by omega),A6 k2];cases hk:u.kids with
   |nil=>rw[hk]at hv;cases hv
   |cons y r=>rw[hk]at hv;cases hv;rfl
  rw[V]at I E;clear V;generalize Df ⟨p,false,[],vars⟩ v=z at*;obtain⟨x,⟨q,b,lg⟩⟩:=z;simp only at W;obtain⟨ts,cs,a0⟩:=s;have a7:Am.Sm ⟨ts,cs,a0 ||lg⟩:=⟨L.types,L.calls⟩;have a3:=B0k _ a7 x W;have a4:=A3x a7 W;have a6:=D1b _ a4 ⟨x,u.name,u.targs⟩ ⟨W,O.name,O.targs⟩;unfold U6 at I E;simp only at I E
  (refine sV Jb λK z=>?_;refine⟨by omega,_,Ck J,rfl,?_⟩;(try refine Ah d2 ?_);apply z;clear z K)
  refine A0.tt rfl ?_
  (refine sG Jb [] 17 [⟨[],[],[11,12],[11,12]⟩,⟨[],[],[11,12],[11,12]⟩,⟨[],[],[11,12],[11,12]⟩,⟨[],[],[11,12],[11,12]⟩,⟨[],[],[11,12],[11,12]⟩,⟨[],[],[11,12],[11,12]⟩,⟨[],[],[11,12],[11,12]⟩,⟨[],[],[11,12],[11,12]⟩,⟨[],[],[11,12],[11,12]⟩,⟨[],[],[11,12],[11,12]⟩,⟨[],[],[11,12],[11,12]⟩,⟨[],[],[11,12],[11,12]⟩,⟨[],[],[11,12],[11,12]⟩,⟨[],[],[11,12],[11,12]⟩,⟨[11],[11],[12],[12]⟩,⟨[12],[12],[11],[11]⟩,⟨[11],[],[],[]⟩] λK z=>?_;refine ev ?_;refine ci (Ck J) ?_;refine cj (Ck hv) ?_;refine cc hT ?_;apply z;clear z K)
  cases b with
  |true =>
   rw[A6 rfl]at I E;cases a0 <;> (
    refine sR Jb ?_;refine sR Jb ?_;refine A0.ff rfl (A0.kk (u2 _ _ ?_));clear u2 Z;refine lT Jb ?_;exact⟨_,⟨I,E⟩,sS,by simp[ble,A8,Ai]⟩)
  |false =>
   rw[A3 (by simp)]at I E;cases a0 <;> (
    simp only[Vn,W7]at I E a3 a6;generalize Gr _ x=s3 at*;generalize Gp s3 _=s4 at*;refine sR Jb ?_;refine sR Jb ?_;refine A0.tt rfl ?_
    (refine lG Jb [] 15 [] λK z=>?_;refine ev ?_;refine cc a3 ?_;refine ci (Ck J) ?_;refine ci (Ck J) ?_;refine cc a6 ?_;apply z;clear z K;try simp only[A5,A9])
    refine u2 _ _ ?_;clear u2 Z;refine lT Jb ?_;exact⟨_,⟨I,E⟩,sS,by simp[ble,A8,Ai]⟩)
 intro s' I;obtain⟨I,_⟩:=I;rw[D3,We]at I;subst I;refine Ae B6 Jb λZ u2=>?_;refine A0.ss rfl ?_;simp only[A5,A9,Ac];refine u1 _ _<|sR Jb ?_;exact aR
def Ny(d:Decl):List A2:=d.vars++Ad d.sig.A1
def Ka(x:Ty)(c:B8):List Ty:=x.args++c.targs
def P2(p:Prog)(d:Decl)(x:Ty)(c:B8):List Param:=(Jz p false d).vars.map (Param.subst (Ny d) (Ka x c))
def Jd(d:Decl)(x:Ty)(c:B8):Ex:=d.body.subst (Ny d) (Ka x c)
def S6(p:Prog)(s:Am)(x:Ty)(c:B8):Am:=if J2 p x c.name<0 then s else match p.decls[(J2 p x c.name).toNat]? with
 |none=>s
 |some d=>Nk p s (Jd d x c) (P2 p d x c)
mutual
theorem E0q(v:List A2)(a:List Ty):∀e:Ex,(Cj (e.subst v a)).length=(Cj e).length
 |.mk k n t l ks q=>by rw[Ws,Cj,Cj];have:(Ex.mk k n t l ks q).kids=ks:=rfl;rw[this,Ar,Ar,D9w v a ks]
theorem D9w(v:List A2)(a:List Ty):∀l:List Ex,(Em (l.map (Ex.subst v a))).length=(Em l).length
 |[]=>rfl
 |e::l=>by rw[Cp,Em,Em,As,As,E0q v a e,D9w v a l]
end
def E4o(p:Prog)(x:Ty)(m:A2):J2 p x m<0\/∃(j:Nat)(d:Decl),J2 p x m=j/\p.decls[j]?=some d/\d.kind=3:=by unfold J2;split;rcases Lo (Ez x.name m) p.decls with⟨E,_⟩|⟨j,d,E,I,J⟩;left;unfold N9;rw[E];split;rw[A3 (by omega)];decide;decide;unfold N9;rw[E,Hx,I];simp only;split;refine .inr ⟨j,d,rfl,I,?_⟩;simp only[Ez,Bi,E4]at J;exact J.1.1;exact .inl (by decide);exact .inl (by decide)
def B0u{x:Ty}{c:B8}(E:x.Sm)(I:c.Sm):∀u,u∈Ka x c->u.Sm:=λu J=>(C6.1 J).elim (E.arg u) (I.targs.2 u)
def C9e{p:Prog}(h:p.Fit){d:Decl}(hd:d∈p.decls){x:Ty}{c:B8}(E:x.Sm)(I:c.Sm):D8.Sm ⟨p,false,[],P2 p d x c⟩:=by have hs:=C8w h.sm false (h.sm.decls.2 d hd) (h.two d hd) (h.par d hd);refine⟨h.sm,by simp,by simp,by simp only[P2,Bc];exact hs.vl,λf L=>?_⟩;obtain⟨g,J,rfl⟩:=Au.1 L;have:=hs.vars g J;exact⟨this.name,this.type.subst (B0u E I)⟩
def G0n{p:Prog}(h:p.Fit){s:Am}(hs:s.Sm){x:Ty}{c:B8}(I:x.Sm)(J:c.Sm):(S6 p s x c).Sm:=by unfold S6;split;exact hs;split;exact hs;rename_i d hd;have E:=Bm hd;refine C7h (C9e h E I J) _ hs λy L=>?_;exact A8y (Q:=Ex.Sm) (λe h x I=>h.kids.2 x I) _ (Ex.Sm.subst (B0u I J) _ (h.sm.decls.2 d E).body) y L
abbrev Mb:List Nat:=[0,1,2,3,4,5,6,7,8,9,10,11,12,13,14,15,16,23,30,39,53]
def H0f(p:Prog)(h:p.Fit)(a2:p.Le)(a6:∀d,d∈p.decls->d.kind=3->d.body.Ft)(s:Am)(hs:s.Sm)(x:Ty)(U:x.Sm)(c:B8)(V:c.Sm) :Ab prog 50 [Cq p,Ke s,Be x,caV c] (Ke (S6 p s x c)):=by
 have a1:=h.sm.decls.1;have hm:=B5t p a1 x c.name;have J:=E4o p x c.name;unfold S6;by_cases O:J2 p x c.name<0;rw[A6 O];generalize J2 p x c.name=i at*;refine cB func50 ?_;refine sR Mb ?_;refine sC hm Mb ?_;refine Ae O Mb λK1 u1=>?_;refine tI ?_;refine sR Mb ?_;exact aR
 .rw[A3 O];obtain⟨j,d,hj,hd,hk⟩:=J.resolve_left O;have E:=Bm hd;have I:=h.sm.decls.2 d E;rw[hj]at hm O |-;rw[Hx,hd];simp only;have ab:=I.vars.1;have a7:=I.sig.A1.1;have af:=U.len;have ac:=V.targs.1;have hn:=Qh d.sig.A1 a7;have a0:=E4v p h.sm false d I (h.two d E) (h.par d E);have L:=C8w h.sm false I (h.two d E) (h.par d E);have hS:=λt ht=>Q0 (Ny d) (Ka x c) (B0u U V) t ht;have hb:=B6k (Ny d) (Ka x c) (B0u U V) d.body I.body;have hN:=E4p p (P2 p d x c) (C9e h E U V) s hs (Jd d x c) (Ex.Sm.subst (B0u U V) _ I.body) ((a6 d E hk).subst _ _) (by unfold Jd;rw[E0q];have:=(a2.decls d E).body.list;unfold sm;omega)
  have a9:Ba (Ny d)=Ba d.vars++Ba (d.sig.A1.map (·.name)):=by simp[Ny,Ba,Ad]
  have a3:Ag (Ka x c)=Ag x.args++Ag c.targs:=by simp[Ka,H3]
  have a':=L.vl;have a5:=L.vars;unfold P2 Jd at*;generalize Nk p s (d.body.subst (Ny d) (Ka x c)) ((Jz p false d).vars.map (Param.subst (Ny d) (Ka x c)))=R at*;generalize ad:Ny d=NN at*;generalize aa:Ka x c=AA at*;generalize Jz p false d=sc at*;refine cB func50 ?_;refine sR Mb ?_;refine sC hm Mb ?_;refine Ae O Mb λK1 u1=>?_;refine kI u1 ?_;clear u1 K1;refine sV Mb λK z=>?_;refine ci (Ek hd) ?_;apply z;clear z K;refine sG Mb [30] 7 [⟨[30],[30],[],[]⟩,⟨[],[],[30],[30]⟩,⟨[],[],[30],[30]⟩,⟨[30],[30],[],[]⟩,⟨[],[],[30],[30]⟩,⟨[],[],[30],[30]⟩,⟨[],[],[30],[30]⟩] λK z=>?_;refine ev ?_;refine⟨V0 _,by(try simp only[Ba,Bc,Az]);unfold lim sm at*;omega,?_⟩;(try refine ev ?_);refine cc hn ?_;refine⟨V0 _,by(try simp only[Bc]);unfold lim sm at*;omega,?_⟩;(try refine ev ?_);apply z;clear z K;refine sG Mb [39] 6 [⟨[39],[39],[],[]⟩,⟨[],[],[39],[39]⟩,⟨[],[],[39],[39]⟩,⟨[39],[39],[],[]⟩,⟨[],[],[39],[39]⟩,⟨[],[],[39],[39]⟩] λK z=>?_;refine ev ?_;refine⟨A4x _,by(try simp only[H3,Bc,Az]);unfold lim sm at*;omega,?_⟩;(try refine ev ?_);refine⟨A4x _,by(try simp only[H3,As,Bc,Az]);unfold lim sm at*;omega,?_⟩;(try refine ev ?_);apply z;clear z K;rw[<-a9,<-a3];refine A0.Jh 30 rfl ?_;refine A0.Jh 39 rfl (wk [(4,.box 4 0),(5,.box 5 0),(8,.box 8 0),(10,.box 10 0),(11,Ce NN),(12,Co AA)] [(4,.cells ((Ai p).map .d)),(5,.cells (Jg s)),(8,.cells [.d .nil,.d .nil,.d (.bool false)]),(10,.cells (deS d))] ?_);refine sC a0 Mb ?_;refine sR Mb ?_;refine A0.pp 14 5 14 rfl<|kR Mb λK1 u1=>?_;refine A0.bb (A0.ii sc.vars (X:=Unit) (λj _=>[(4,.box 4 0),(5,.box 5 0),(8,.box 8 0),(10,.box 10 0),(11,Ce NN),(12,Co AA),(13,.box 13 0),(14,.acc 14),(15,A7 j)]) (λj _=>[(4,.cells ((Ai p).map .d)),(5,.cells (Jg s)),(8,.cells [.d .nil,.d .nil,.d (.bool false)]),(10,.cells (deS d)),(13,.cells ((G5 sc).map .d)),(14,.rows 5 (Ay ((sc.vars.take j).map (Param.subst NN AA))))]) (λ_ _=>True) () trivial sS (by simp[ble,A8,Ai,G5,Ay]) ?_ ?_)
  rotate_left;intro j _ v hv Z dp tk a8 _;have ae:=(Aw.1 hv).1;have a4:=hS v.type (a5 v Z).type;rw[tk];refine sK λW u2=>?_;refine sQ Mb λK z=>?_;simp -implicitDefEqProofs only[EV,Nat.reduceEqDiff,reduceCtorEq,TFA,a8,G5];apply z;clear z K;refine gI u2 ?_;clear u2 W;refine sK λW u2=>A0.bb ?_;refine sV Mb λK z=>?_;refine ci (Dx hv) ?_;apply z;clear z K;refine sC a4 Mb ?_;(refine lV Mb λK z=>?_;refine⟨by simp,by(try simp only[Bc,D0]);unfold lim sm at*;omega,?_⟩;(try refine ev ?_);apply z;clear z K;try simp only[A5,A9]);refine u2 _ _ ?_;clear u2 W;refine lT Mb ?_;exact⟨(),trivial,sS,by simp[ble,A8,Ai,G5,Ay,E9,Param.subst]⟩;intro _ _;rw[Cx];refine sK λW u2=>?_;refine sQ Mb λK z=>?_;simp -implicitDefEqProofs only[EV,Nat.reduceEqDiff,reduceCtorEq,TFA,B6,G5];apply z;clear z K;refine A0.ss rfl ?_;simp only[A5,A9,Ac];refine u1 _ _ ?_;clear u2 W u1 K1;refine A0.Jh 14 rfl (wk [(4,.box 4 0),(5,.box 5 0),(8,.box 8 0),(10,.box 10 0),(11,Ce NN),(12,Co AA),(14,.d (.slice (Ay (sc.vars.map (Param.subst NN AA)))))] [(4,.cells ((Ai p).map .d)),(5,.cells (Jg s)),(8,.cells [.d .nil,.d .nil,.d (.bool false)]),(10,.cells (deS d))] ?_);refine sG Mb [] 8 [] λK z=>?_;refine ev ?_;refine cc hb ?_;refine cc hN ?_;apply z;clear z K;exact aR
def Kg(s:Am)(l:List Ty):Am:=l.foldl Gr s
def Mo(p:Prog)(x:Ty)(c:B8):Option A4:=if F5 (Cd p [] x) c.name<0 then none else match(Cd p [] x)[(F5 (Cd p [] x) c.name).toNat]? with
 |none=>none
 |some g=>if g.A1.length=c.targs.length/\Cg p [] x c.on=true then some g else none
def Wj(g:A4)(c:B8):List Ty:=g.params.map λq=>q.type.subst (Ad g.A1) c.targs
def Vu(g:A4)(c:B8):Ty:=g.result.subst (Ad g.A1) c.targs
def Ks(p:Prog)(x:Ty)(out:Am)(c:B8):Am:=match Mo p x c with
 |none=>out
 |some g=>S6 p (Gr (Kg out (Wj g c)) (Vu g c)) x c
def Ru(p:Prog)(s out:Am)(x:Ty):Am:=s.calls.foldl (Ks p x) (if Bb p x 1=true then Kg out ((Bo p x).map (·.type))else out)
def Li(p:Prog)(s:Am):Am:=s.types.foldl (Ru p s) s
def C5u:∀(l:List Ty) {s:Am},s.Sm->(∀t,t∈l->t.Sm)->(Kg s l).Sm
 |[],_,hs,_=>hs
 |t::l,_,hs,h=>C5u l (A3x hs (h t (by simp))) λu E=>h u (by simp[E])
def D1x{p:Prog}(h:p.Fit){x:Ty}(O:x.Sm){out:Am}(U:out.Sm){c:B8}(L:c.Sm):(Ks p x out c).Sm:=by
 unfold Ks;split;exact U
 .rename_i g E;have I:g.Sm:=by unfold Mo at E;split at E;cases E;split at E;cases E;rename_i W J;split at E;cases E;exact A1h h.sm (by simp) O _ (Bm J);cases E
  refine G0n h (A3x (C5u _ U λt ht=>?_) (I.result.subst L.targs.2)) O L;obtain⟨q,V,rfl⟩:=Au.1 ht;exact(I.params.2 q V).type.subst L.targs.2
def C6d{α:Type}{f:Am->α->Am}:∀(l:List α) {s:Am},(∀s a,a∈l->s.Sm->(f s a).Sm)->s.Sm->(l.foldl f s).Sm
 |[],_,_,hs=>hs
 |a::l,_,h,hs=>C6d l (λs b E=>h s b (by simp[E])) (h _ a (by simp) hs)
def E6q{p:Prog}(h:p.Fit){s:Am}(hs:s.Sm){x:Ty}(I:x.Sm){out:Am}(J:out.Sm):(Ru p s out x).Sm:=by refine C6d _ (λU c O E=>D1x h I E (hs.calls.2 c O)) ?_;split;refine C5u _ J λt ht=>?_;obtain⟨f,L,rfl⟩:=Au.1 ht;exact(B2q h.sm I f L).type;exact J
def D6f{p:Prog}(h:p.Fit){s:Am}(hs:s.Sm):(Li p s).Sm:=C6d _ (λJ x I E=>E6q h hs (hs.types.2 x I) E) hs
abbrev z38:Aq:=.cells [.d .nil,.d .nil,.d (.bool false)]
abbrev Fz:List Nat:=[0,1,2,3,4,5,6,7,8,9,10,11,12,13,14,15,21,31,38,55,88,102]
def G2w(p:Prog)(h:p.Fit)(av:p.Le)(ay:∀d,d∈p.decls->d.kind=3->d.body.Ft)(s:Am)(hs:s.Sm):Ab prog 20 [Cq p,Ke s] (Ke (Li p s)):=by
 have b5:=hs.types.1;have b7:=hs.calls.1;generalize hR:Li p s=R;unfold Li at hR;refine cB func20 ?_;refine sR Fz ?_;refine sR Fz ?_;refine kR Fz λK1 u1=>?_;refine A0.bb (A0.ii s.types (X:=Am) (λj out=>[(2,.box 2 0),(3,.box 3 0),(4,.box 4 0),(5,.box 5 0),(6,A7 j)]) (λj out=>[(2,.cells ((Ai p).map .d)),(3,.cells (Jg s)),(4,z38),(5,.cells (Jg out))]) (λj out=>(s.types.drop j).foldl (Ru p s) out=R/\out.Sm) s ⟨hR,hs⟩ sS (by simp[ble,A8,Ai]) ?_ ?_);rotate_left
 .intro j out x ap ah dp tk b0 hI;obtain⟨hI,ho⟩:=hI;have hx:=hs.types.2 x ah;have ax:=E6q h hs hx ho;rw[dp,Mr]at hI;have a5:=A0m p x 1;have a9:=A6n p h.sm [] (by simp) (by simp) x hx;simp only[show Ax ([]:List Ak)=[] from rfl]at a9;have b3:=Y9 h.sm [] x;have ar:=A1h h.sm (env:=[]) (by simp) hx;refine Ae b0 Fz λK2 u2=>?_;refine gI u2 ?_;clear u2 K2;refine sK λK2 u2=>A0.bb ?_
  (refine sV Fz λK z=>?_;refine ci (Ev ap) ?_;apply z;clear z K)
  refine A0.C5h λK3 u3 ac=>?_;have key:∀o1:Am,o1.Sm->s.calls.foldl (Ks p x) o1=Ru p s out x->K3 [(2,.box 2 0),(3,.box 3 0),(4,.box 4 0),(5,.box 5 0),(6,A7 j),(7,.box 7 0)] [(2,.cells ((Ai p).map .d)),(3,.cells (Jg s)),(4,z38),(5,.cells (Jg o1)),(7,.cells (Q9 x))]:=by
   intro o1 au hT;refine u3 _ _ ?_;clear ac u3 K3;refine sC a9 Fz ?_;generalize am:Cd p [] x=set at*;refine sR Fz ?_;refine A0.bb (A0.ii s.calls (X:=Am) (λk o=>[(2,.box 2 0),(3,.box 3 0),(4,.box 4 0),(5,.box 5 0),(6,A7 j),(7,.box 7 0),(10,.d (.slice (B9 set))),(11,A7 k)]) (λk o=>[(2,.cells ((Ai p).map .d)),(3,.cells (Jg s)),(4,z38),(5,.cells (Jg o)),(7,.cells (Q9 x))]) (λk o=>(s.calls.drop k).foldl (Ks p x) o=Ru p s out x/\o.Sm) o1 ⟨hT,au⟩ sS (by simp[ble,A8,Ai]) ?_ ?_);intro o I;obtain⟨I,ae⟩:=I;rw[D3,We]at I;subst I;refine sK λK4 u4=>?_;refine sQ Fz λK z=>?_;simp -implicitDefEqProofs only[EV,Nat.reduceEqDiff,reduceCtorEq,TFA,B6,Gn];apply z;clear z K;refine A0.ss rfl ?_;simp only[A5,A9,Ac];refine u2 _ _ ?_;clear u4 K4 u2 K2;refine lT Fz ?_;exact⟨_,⟨hI,ax⟩,sS,by simp[ble,A8,Ai]⟩
   .intro k o c aq ad a8 ao aj I;obtain⟨I,ae⟩:=I;rw[a8,Mr]at I;have hc:=hs.calls.2 c ad;have U:=D1x h hx ae hc;have hf:=B4i set c.name b3;have a2:=A6r p h.sm [] (by simp) (by simp) x c.on hx hc.on;simp only[show Ax ([]:List Ak)=[] from rfl]at a2;have J:Mo p x c=if F5 set c.name<0 then none else match set[(F5 set c.name).toNat]? with|none=>none|some g=>if g.A1.length=c.targs.length/\Cg p [] x c.on=true then some g else none:=by unfold Mo;rw[am]
    refine sK λK4 u4=>?_
    (refine sQ Fz λK z=>?_;simp -implicitDefEqProofs only[EV,Nat.reduceEqDiff,reduceCtorEq,TFA,aj,Gn];apply z;clear z K)
    refine gI u4 ?_;clear u4 K4;refine A0.C5h λK4 u4 a4=>A0.bb ?_
    (refine sV Fz λK z=>?_;refine⟨by omega,_,Jq aq,rfl,?_⟩;(try simp -implicitDefEqProofs only[EV,Nat.reduceAdd,Nat.reduceEqDiff,Nat.reduceBEq,Nat.reduceLeDiff,reduceCtorEq,TFA,G6]);apply z;clear z K)
    have skip:Mo p x c=none->K4 [(2,.box 2 0),(3,.box 3 0),(4,.box 4 0),(5,.box 5 0),(6,A7 j),(7,.box 7 0),(10,.d (.slice (B9 set))),(11,A7 k)] [(2,.cells ((Ai p).map .d)),(3,.cells (Jg s)),(4,z38),(5,.cells (Jg o)),(7,.cells (Q9 x))]:=by
     intro hn;have ab:Ks p x o c=o:=by unfold Ks;rw[hn]
     rw[ab]at I U;refine u4 _ _<|lT Fz ?_;exact⟨o,⟨I,U⟩,sS,by simp[ble,A8,Ai]⟩
    unfold F5 at J;rcases Lo (λs:A4=>decide (s.name=c.name)) set with⟨h1,_⟩|⟨n,g,h1,h2,_⟩
    .rw[h1]at J hf;rw[A6 (by decide)]at J;refine sC hf Fz<|sK λK5 u5=>?_;refine dR Fz 19 ?_;refine A0.tt rfl (A0.xx ?_);simp only[A5,A9,Ac];exact a4 sS (by simp[ble,A8,Ai]) (skip J)
    have a7:¬(n:Int)<0:=by omega
    have a1:=ar g (Bm h2);rw[h1]at J hf;rw[A3 a7,Hx,h2]at J;simp only at J;by_cases ak:g.A1.length=c.targs.length;rotate_left
    .rw[A3 λhh=>ak hh.1]at J;have Z:¬(g.A1.length:Int)=(c.targs.length:Int):=by omega
     refine sC hf Fz<|sK λK5 u5=>?_
     (refine sG Fz [] 19 [] λK z=>?_;refine Ah a7 ?_;refine⟨by omega,_,De h2,rfl,?_⟩;(try refine Ah Z ?_);apply z;clear z K)
     refine A0.tt rfl (A0.xx ?_);simp only[A5,A9,Ac];exact a4 sS (by simp[ble,A8,Ai]) (skip J)
    have Z:(g.A1.length:Int)=(c.targs.length:Int):=by omega
    cases hb:Cg p [] x c.on with
    |false =>
     rw[hb]at a2;rw[A3 λhh=>by rw[hb]at hh;cases hh.2]at J;refine sC hf Fz<|sK λK5 u5=>?_
     refine sG Fz [] 19 [] λK z=>?_;refine Ah a7 ?_;refine⟨by omega,_,De h2,rfl,?_⟩;(try refine Ah Z ?_);refine cc a2 ?_;apply z;clear z K;refine A0.tt rfl (A0.xx ?_);simp only[A5,A9,Ac];exact a4 sS (by simp[ble,A8,Ai]) (skip J)
    |true =>
     rw[hb]at a2;rw[A6 ⟨ak,hb⟩]at J;clear skip;have ab:Ks p x o c=S6 p (Gr (Kg o (Wj g c)) (Vu g c)) x c:=by unfold Ks;rw[J]
     rw[ab]at I U;have ag:=Qh g.A1 a1.A1.1;rw[show g.A1.map (λx=>x.name)=Ad g.A1 from rfl]at ag;have b6:=a1.params.1;have a':=λt ht=>Q0 (Ad g.A1) c.targs hc.targs.2 t ht;have aa:=a1.result.subst (vars:=Ad g.A1) hc.targs.2;refine sC hf Fz<|sK λK5 u5=>?_
     refine sG Fz [] 19 [] λK z=>?_;refine Ah a7 ?_;refine⟨by omega,_,De h2,rfl,?_⟩;(try refine Ah Z ?_);refine cc a2 ?_;apply z;clear z K;refine kI u5 ?_;clear u5 K5;refine sV Fz λK z=>?_;refine ci (De h2) ?_;refine cc ag ?_;apply z;clear z K;refine kR Fz λK5 u5=>?_;refine A0.bb (A0.ii g.params (X:=Am) (λi q=>[(2,.box 2 0),(3,.box 3 0),(4,.box 4 0),(5,.box 5 0),(6,A7 j),(7,.box 7 0),(10,.d (.slice (B9 set))),(11,A7 k),(12,.box 12 0),(13,A7 n),(14,Ce (Ad g.A1)),(15,A7 i)]) (λi q=>[(2,.cells ((Ai p).map .d)),(3,.cells (Jg s)),(4,z38),(5,.cells (Jg q)),(7,.cells (Q9 x)),(12,.cells (caS c))]) (λi q=>Kg q ((g.params.drop i).map λq=>q.type.subst (Ad g.A1) c.targs)=Kg o (Wj g c)/\q.Sm) o ⟨rfl,ae⟩ sS (by simp[ble,A8,Ai]) ?_ ?_);rotate_left;intro i q v af V L a6 a3 E;obtain⟨E,hq⟩:=E;have hv:=a1.params.2 v V;have aw:=a' v.type hv.type;have ai:=hv.type.subst (vars:=Ad g.A1) hc.targs.2;have O:=B0k q hq _ ai;have a0:=A3x hq ai;rw[L,Cp]at E;unfold Kg at E;rw[Mr]at E;generalize v.type.subst (Ad g.A1) c.targs=vt at*;generalize Gr q vt=q2 at*;refine sK λK6 W=>?_;refine sV Fz λK z=>?_;refine⟨by omega,_,De h2,rfl,?_⟩;(try refine Ah a3 ?_);apply z;clear z K;refine gI W ?_;clear W K6;refine sK λK6 W=>A0.bb ?_;(refine lG Fz [] 14 [] λK z=>?_;refine ev ?_;refine ci (De h2) ?_;refine ci (Dx af) ?_;refine cc aw ?_;refine cc O ?_;apply z;clear z K;try simp only[A5,A9]);refine W _ _ ?_;clear W K6;refine lT Fz ?_;exact⟨q2,⟨E,a0⟩,sS,by simp[ble,A8,Ai]⟩;intro q E;obtain⟨E,hq⟩:=E;rw[D3,It]at E;rw[<-E]at I U;rw[show Kg q []=q from rfl]at I U;have O:=B0k q hq _ aa;have a0:=A3x hq aa;have b2:=a' g.result a1.result;unfold Vu at I U;generalize g.result.subst (Ad g.A1) c.targs=rt at*;have b1:=H0f p h av ay _ a0 x hx c hc;generalize Gr q rt=q2 at*;generalize S6 p q2 x c=q3 at*;refine sK λK6 W=>?_;refine sV Fz λK z=>?_;refine⟨by omega,_,De h2,rfl,?_⟩;(try refine Ah B6 ?_);apply z;clear z K;refine A0.ss rfl ?_;simp only[A5,A9,Ac];refine u5 _ _ ?_;clear W K6 u5 K5;refine sG Fz [] 10 [] λK z=>?_;refine ev ?_;refine ci (De h2) ?_;refine cc b2 ?_;refine cc O ?_;apply z;clear z K;(refine lV Fz λK z=>?_;refine cc b1 ?_;apply z;clear z K;try simp only[A5,A9]);refine u4 _ _ ?_;clear a4 u4 K4;refine lT Fz ?_;exact⟨q3,⟨I,U⟩,sS,by simp[ble,A8,Ai]⟩
  cases hi:Bb p x 1 with
  |false =>
   rw[hi]at a5;have hT:s.calls.foldl (Ks p x) out=Ru p s out x:=by unfold Ru;rw[hi];rfl
   refine sC a5 Fz ?_;refine A0.ff rfl (A0.kk (ac sS (by simp[ble,A8,Ai]) (key out ho hT)))
  |true =>
   rw[hi]at a5;have hT:s.calls.foldl (Ks p x) (Kg out ((Bo p x).map (·.type)))=Ru p s out x:=by unfold Ru;rw[hi];rfl
   have az:=B2d p h.sm x hx hi;have b8:=A5m h.sm x;have b4:=B2q h.sm hx;generalize Bo p x=fl at*;refine sC a5 Fz ?_;refine A0.tt rfl<|sC az Fz ?_;refine sR Fz ?_;refine A0.bb (A0.ii fl (X:=Am) (λi q=>[(2,.box 2 0),(3,.box 3 0),(4,.box 4 0),(5,.box 5 0),(6,A7 j),(7,.box 7 0),(8,.d (.slice (Ay fl))),(9,A7 i)]) (λi q=>[(2,.cells ((Ai p).map .d)),(3,.cells (Jg s)),(4,z38),(5,.cells (Jg q)),(7,.cells (Q9 x))]) (λi q=>Kg q ((fl.drop i).map (·.type))=Kg out (fl.map (·.type))/\q.Sm) out ⟨rfl,ho⟩ sS (by simp[ble,A8,Ai]) ?_ ?_)
   rotate_left;intro i q v af V L a6 a3 E;obtain⟨E,hq⟩:=E;have hv:=(b4 v V).type;have O:=B0k q hq _ hv;have a0:=A3x hq hv;rw[L,Cp]at E;unfold Kg at E;rw[Mr]at E;generalize Gr q v.type=q2 at*;refine Ae a3 Fz λK6 W=>?_;refine gI W ?_;clear W K6;refine sK λK6 W=>A0.bb ?_;(refine lG Fz [] 6 [] λK z=>?_;refine ev ?_;refine ci (Dx af) ?_;refine cc O ?_;apply z;clear z K;try simp only[A5,A9]);refine W _ _ ?_;clear W K6;refine lT Fz ?_;exact⟨q2,⟨E,a0⟩,sS,by simp[ble,A8,Ai]⟩;intro q E;obtain⟨E,hq⟩:=E;rw[D3,It]at E;rw[<-E]at hT;refine Ae B6 Fz λK6 W=>?_;refine A0.ss rfl ?_;simp only[A5,A9,Ac];exact ac sS (by simp[ble,A8,Ai]) (key q hq hT)
 intro out hI;obtain⟨hI,_⟩:=hI;rw[D3,We]at hI;subst hI;refine Ae B6 Fz λK2 u2=>?_;refine A0.ss rfl ?_;simp only[A5,A9,Ac];refine u1 _ _<|sR Fz ?_;exact aR
abbrev Tt:Am:=⟨[],[],false⟩
def Iq(p:Prog):Nat->Am->Int->Am × Bool
 |0,_,_=>(Tt,false)
 |k+1,s,n=>if n=Eu s then(if Vm s=true then(Tt,false)else(s,true))else if Vm s=true then(Tt,false)else Iq p k (Li p s) (Eu s)
def Kt(p:Prog):Am × Bool:=Iq p 64 (Nk p Tt p.main []) (-1)
def E7b{α:Type}{cmp:α->α->Int}{x:α}:∀{l:List α} {done:Bool} {out R:List α},Fy cmp x l done out=some R->out.length+l.length<=R.length
 |[],done,out,R,h=>by rw[Fy]at h;cases h;cases done <;> simp
 |t::l,done,out,R,h=>by rw[Fy]at h;split at h;cases h;split at h <;> (have:=E7b h;simp at this |-;omega)
def C9u{α:Type}{cmp:α->α->Int}{x:α}(l:List α):l.length<=(Iu cmp l x).length:=by
 unfold Iu;cases h:Fy cmp x l false []with
 |none=>exact Bq _
 |some R=>have:=E7b h;simpa using this
def B2x(s:Am)(x:Ty):Eu s<=Eu (Gr s x):=by unfold Gr;split;exact Bq _;have:=C9u (cmp:=E6) (x:=x) s.types;simp only[Eu];omega
def D6h(s:Am)(x:B8):Eu s<=Eu (Gp s x):=by unfold Gp;split;exact Bq _;have:=C9u (cmp:=Dk) (x:=x) s.calls;simp only[Eu];omega
def B2g{α:Type}{f:Am->α->Am}(h:∀s a,Eu s<=Eu (f s a)):∀(l:List α)(s:Am),Eu s<=Eu (l.foldl f s)
 |[],_=>Bq _
 |a::l,s=>Dd (h s a) (B2g h l _)
def G2x(p:Prog)(s:Am)(e:Ex)(vars:List Param):Eu s<=Eu (Nk p s e vars):=by
 refine B2g (λs e=>?_) _ _;have E:∀z,Eu s<=Eu (U6 s e z):=λz=>by unfold U6;split;exact Bq _;exact Dd (show Eu s<=_ from B2x { s with D9:=s.D9 ||z.2.D9 } z.1) (D6h _ _)
 unfold L0;split;exact B2x _ _;split;split;exact Bq _;exact E _;exact Bq _
def E1h(s:Am)(l:List Ty):Eu s<=Eu (Kg s l):=B2g B2x _ _
def G8j(p:Prog)(s:Am):Eu s<=Eu (Li p s):=by
 refine B2g (λo x=>?_) _ _;have E:Eu o<=Eu (if Bb p x 1=true then Kg o ((Bo p x).map (·.type))else o):=by split;exact E1h _ _;exact Bq _
 refine Dd E (B2g (λo c=>?_) _ _);unfold Ks;split;exact Bq _;rename_i g _;refine Dd (Dd (E1h o (Wj g c)) (B2x _ (Vu g c))) ?_;unfold S6;split;exact Bq _;split;exact Bq _;exact G2x _ _ _ _
def C9m{s:Am}(h:Vm s=false):Eu s<=60:=by unfold Vm at h;simp only[An3,Ai7]at h;omega
def E6y{p:Prog}(h:p.Fit):∀(k:Nat) {s:Am} (n:Int),s.Sm->(Iq p k s n).1.Sm
 |0,_,_,_=>⟨by simp[Iq],by simp[Iq]⟩
 |k+1,s,n,hs=>by have E:Am.Sm Tt:=⟨by simp,by simp⟩;rw[Iq];split;split;exact E;exact hs;split;exact E;exact E6y h k _ (D6f h hs)
def D8y{p:Prog}(h:p.Fit):(Nk p Tt p.main []).Sm:=C7h (vars:=[]) ⟨h.sm,by simp,by simp,by simp,by simp⟩ _ ⟨by simp,by simp⟩ λy I=>A8y (Q:=Ex.Sm) (λe h x E=>h.kids.2 x E) _ h.sm.main y I
def G1p{p:Prog}(h:p.Fit):(Kt p).1.Sm:=E6y h _ _ (D8y h)
abbrev fiV(z:Am × Bool):SV:=.tuple [Ke z.1,B1 z.2]
abbrev Sn:List Nat:=[0,1,2,3,4,5,14,16,24]
def H0m(p:Prog)(h:p.Fit)(L:p.Le)(a3:∀d,d∈p.decls->d.kind=3->d.body.Ft)(a5:p.main.Ft):Ab prog 6 [Cq p] (fiV (Kt p)):=by
 have a2:=D8y h;have hN:=E4p p [] ⟨h.sm,by simp,by simp,by simp,by simp⟩ Tt ⟨by simp,by simp⟩ p.main h.sm.main a5 (by have:=L.main.list;unfold sm;omega);simp only[show Ay ([]:List Param)=[] from rfl]at hN;generalize hR:Kt p=R;unfold Kt at hR;generalize Nk p Tt p.main []=s0 at*;refine cB func6 ?_;refine sR Sn ?_;refine sC hN Sn ?_;refine kR Sn λK1 u1=>?_;refine A0.bb (A0.loop (X:=Nat × Am × Int) (λz=>[(1,.box 1 0),(2,.box 2 0),(3,B1 false),(4,.box 4 0),(5,A7 z.2.2)]) (λz=>[(1,.cells ((Ai p).map .d)),(2,z38),(4,.cells (Jg z.2.1))]) (λz=>Iq p z.1 z.2.1 z.2.2=R/\z.2.1.Sm/\z.2.2<=60/\(63:Int)<=z.1+z.2.2/\z.2.2<=Eu z.2.1) (λz=>z.1) (64,s0,-1) ⟨hR,a2,by simp only;omega,by simp only;omega,by simp only;omega⟩ sS (by simp[ble,A8,Ai]) ?_);rintro⟨k,s,n⟩ ⟨E,hs,a1,a4,Z⟩;simp only at E hs a1 a4 Z |-;have V:=E4j s hs;have I:=F0e s hs;have a0:=G2w p h L a3 s hs;have W:=D6f h hs;have a6:=G8j p s;obtain⟨k',rfl⟩:∃k',k=k'+1:=⟨k - 1,by omega⟩;rw[Iq]at E;generalize a7:(Eu s:Nat)=zz at*;refine sK λU u2=>?_;by_cases O:n=(zz:Int)
 .rw[A6 O]at E;subst O;refine sC V Sn ?_;refine A0.ss rfl ?_;simp only[A5,A9,Ac];refine u1 _ _ ?_;clear u1 K1 u2 U;refine sK λK1 u1=>?_;cases J:Vm s with
  |true =>rw[J]at I E;rw[A6 rfl]at E;subst E;refine sC I Sn ?_;refine tI ?_;refine sR Sn ?_;exact aR
  |false =>rw[J]at I E;rw[A3 (by simp)]at E;subst E;refine sC I Sn ?_;refine kI u1 ?_;clear u1 K1;refine sR Sn ?_;exact aR
 .rw[A3 O]at E
  (refine sV Sn λK z=>?_;refine⟨_,.inl ⟨_,rfl,V,rfl⟩,?_⟩;(try refine Ah O ?_);apply z;clear z K)
  refine gI u2 ?_;clear u2 U;refine A0.bb<|sK λU u2=>?_;cases J:Vm s with
  |true =>rw[J]at I E;rw[A6 rfl]at E;subst E;refine sC I Sn ?_;refine tI ?_;refine sR Sn ?_;exact aR
  |false =>
   have a8:=C9m J;rw[J]at I E;rw[A3 (by simp)]at E;generalize Li p s=s2 at*;refine sC I Sn ?_;refine kI u2 ?_;clear u2 U;refine sC V Sn ?_;(refine lV Sn λK z=>?_;refine cc a0 ?_;apply z;clear z K;try simp only[A5,A9]);exact⟨(k',s2,(zz:Int)),⟨E,W,by simp only;omega,by simp only;omega,by simp only;omega⟩,by simp only;omega,sS,by simp[ble,A8,Ai]⟩
end Go.Abs
