import Derived.Test.YtoajimpjknbnoaaGreatDoorKU06
import Derived.Test.YtoajimpjknbnoaaGreatDoorKS77
import Derived.Test.YtoajimpjknbnoaaGreatDoorKT07
set_option linter.all false
set_option maxHeartbeats 8000000
set_option maxRecDepth 100000
namespace Go.iA
open Go Go.Proofs Tryz
abbrev Yt(c:Cd):List SV:=[.A8 (D4 c.p) 0,.d (.bool false),.d (.slice (Ai c.env)),.d (.slice (Aw c.vars))]
abbrev Nk(c:Cd):SV:=.agg (Yt c)
def Sa(z:TO):SV:=.tuple [Ba z.1,.d (Hu 4 z.2)]
def jK(c:Cd)(x:Ty):List Param:=if Fk c.env x<0 then Bc c.p x else[]
abbrev MF:=[0,1,2,3,4,5,7,15]
theorem LZ(c:Cd)(h:c.Sm)(x:Ty)(U:x.Sm):Ab prog 294 [Nk c,Ba x] (.tuple [.d (.slice (Aw (jK c x))),Ar (Kt c x)]):=by have I:=zP c.env x h.el h.env;have O:=F9q c.p h.p x U;unfold jK Kt;by_cases E:Fk c.env x<0;rw[A7 E,Bn E,Ch];rw[show D3 c.env x=none by unfold D3;rw[A7 E],qD]at I;refine cB func294 ?_;refine sR MF ?_;refine kC I MF λL u1=>?_;refine sR MF ?_;refine kI u1 ?_;refine sC O MF ?_;exact aR;rw[A5 E,Cb E,C6];obtain⟨f,J,_⟩:=MH E;rw[show D3 c.env x=some f.bound by unfold D3;rw[A5 E,J];rfl,qD]at I;refine cB func294 ?_;refine sR MF ?_;refine kC I MF λL u1=>?_;refine sR MF ?_;refine tI ?_;refine sR MF ?_;exact aR
theorem PO{c:Cd}(h:c.Sm):∀e:Ex,e.Sm->(Dc c e).1.Sm:=by
 intro e;induction e using Ex.induct with|_ e W=>?_;intro J;rw[aV];unfold iL;split;unfold qP;split;rename_i f L;split;exact Ik;exact(h.vars f (Bs L)).type;exact Ik;split;unfold gO;split;exact Ik;split;exact Ik;unfold orI;split;exact Ik;exact J.type;split;exact Ik;split;exact Ik
 .rename_i z Z I;cases E:e.kids with
  |nil=>rw[E]at I;simp at I
  |cons v vs =>
   rw[E]at I;simp only[Cj,Ya]at I;obtain⟨rfl,rfl⟩:=I;have V:=W v (by rw[E];simp) (J.kids.2 v (by rw[E];simp));split;exact Ik;split
   .unfold cP;split;exact Ik
    .rename_i s hs;unfold orI;split;exact Ik
     .have O:s∈C3 c.p c.env (Dc c v).1:=by unfold Nh at hs;split at hs;cases hs;rename_i s' U;split at hs;cases hs;split at hs;cases hs;split at hs;cases hs;split at hs;cases hs;cases hs;exact Bs U
      exact(qC h.p (env:=c.env) h.env V s O).result.subst J.targs.2
   split;unfold DN;split;exact Ik;split;rename_i f L;split;exact Ik;exact(wH h.p V f (Bs L)).type;exact Ik;unfold aO;split;exact Ik;split;exact Ik;exact J.type
theorem H7b(e:Ex)(f:Param):Ab prog 295 [Ma f,.A8 (Ce e) 0] (Ar (decide (f.name=e.name))):=by refine cB func295 ?_;refine sR [0,1,2,3] ?_;refine sR [0,1,2,3] ?_;exact aR
theorem F5a(p:Prog)(h:p.Sm)(env:List Aj)(E:env.length<=sm)(J:∀f,f∈env->f.Sm)(x:Ty)(L:x.Sm)(nm:A3) :Ab prog 289 [.A8 (D4 p) 0,.d (.slice (Ai env)),Ba x,Bo nm] (dJ (C3 p env x) nm):=by
 have hs:=cQ p h env E J x L;have hp:=cY (C3 p env x) (W0 h env x) nm;unfold dJ at*;by_cases I:Fo (C3 p env x) nm<0
 .rw[A7 I]at hp |-;refine cB func289 ?_;refine sR [0,1,2,3,6,8,9] ?_
  refine sV [0,1,2,3,6,8,9] λK z=>?_;refine cc hs ?_;refine cc hp ?_;apply z;exact aR
 .rw[A5 I]at hp |-;generalize((C3 p env x)[(Fo (C3 p env x) nm).toNat]?).getD Jg=s at*;refine cB func289 ?_;refine sR [0,1,2,3,6,8,9] ?_
  refine sV [0,1,2,3,6,8,9] λK z=>?_;refine cc hs ?_;refine cc hp ?_;apply z;exact aR
theorem G0b(s:A4)(h:s.Sm)(args:List Ty)(U:s.A1.length=args.length)(O:∀u,u∈args->u.Sm) :Ab prog 292 [Db s,Cv args] (.tuple [Db (s.subst (s.A1.map (·.name)) args),Ar true]):=by
 have I:=fK s.A1 h.A1.1;have E:=VU (s.A1.map (·.name)) args O s h;have J:(s.A1.length:Int)=(args.length:Int):=by omega
 generalize s.subst (s.A1.map (·.name)) args=s' at*;refine cB func292 ?_;refine sR [0,1,2,4,5,11] ?_;refine Ag J [0,1,2,4,5,11] λL u1=>?_;refine kI u1 ?_;refine sG [0,1,2,4,5,11] [] 5 [] λK z=>?_;refine ev ?_;refine cc I ?_;refine cc E ?_;apply z;exact aR
def r8(f:FuncId)(c:Cd)(e:Ex)(z:TO):Prop:=∃t,(z.2=none->t=z.1)/\Ab prog f [Nk c,D6 e] (.tuple [Ba t,.d (Hu 4 z.2)])
theorem r8.of{f:FuncId}{c:Cd}{e:Ex}{z:TO}(h:Ab prog f [Nk c,D6 e] (Sa z)):r8 f c e z:=⟨z.1,λ_=>rfl,h⟩
abbrev ckD(c:Cd):List D:=[.ptr (D4 c.p),.bool false,.slice (Ai c.env),.slice (Aw c.vars)]
theorem rq(c:Cd):Zq (Yt c) (ckD c):=⟨⟨rfl,rfl⟩,⟨rfl,rfl⟩,⟨rfl,rfl⟩,⟨rfl,rfl⟩,trivial⟩
abbrev dK(c:Cd)(f:FuncId):D:=.fn f [.agg (ckD c)]
abbrev UO(c:Cd):List SV:=[.d .G3,.d (dK c 231),.d (dK c 232),.d (dK c 233),.d (dK c 234),.d (dK c 235)]
def J9(g:Ex->Bool)(l:List Ex):Bool:=l.all g
theorem mJ(g:Ex->Bool)(l m:List Ex):J9 g (l++m)=(J9 g l && J9 g m):=by simp[J9]
theorem EX(e:Ex):Cx [e]=B3 e:=by rw[Cx,Cx,Fv]
def Jq(g:Ex->Bool)(j:Nat)(l:List Ex):Option Nat:=if J9 g l=true then some (j+l.length)else none
structure Rx(g:Ex->Bool)(Y:Hq)(j:Nat)(l:List Ex):Prop where
 P:Y.P=prog
 N:j+l.length<=Y.N
 at_:∀i e,l[i]?=some e->Y.xs (j+i)=D6 e/\Y.go (j+i)=g e
theorem Rx.left{g:Ex->Bool}{Y:Hq}{j:Nat}{l m:List Ex}(h:Rx g Y j (l++m)):Rx g Y j l where
 P:=h.P
 N:=by have:=h.N;rw[B5]at this;omega
 at_:=λi e E=>h.at_ i e (by rw[Mm (Az.1 E).1];exact E)
theorem Rx.right{g:Ex->Bool}{Y:Hq}{j:Nat}{l m:List Ex}(h:Rx g Y j (l++m)):Rx g Y (j+l.length) m where
 P:=h.P
 N:=by have:=h.N;rw[B5]at this;omega
 at_:=λi e E=>by have:=h.at_ (l.length+i) e (by rw[Lq (by omega)];simpa using E);rw[Uf];exact this
abbrev tC:=[0,1,4,5,7,8,9,16,1000000]
theorem G9f(g:Ex->Bool)(f:FuncId)(caps:List SV)(V:∀x:Ex,Gz [] (D6 x::caps)=some (D6 x::caps))(Y:Hq)(l:List Ex)(hl:l.length<=lim)(O:Nat)(I:Rx g Y O (Cx l))
  (hc:∀e,e∈l->∀j,Rx g Y j (B3 e)->Ci prog f (D6 e::caps) [(1000000,.ghost Y (some j))] (Ar (!J9 g (B3 e))) [(1000000,.ghost Y (Jq g j (B3 e)))]) :
  Ci prog 273 [.d (.slice (Ed l)),.Bi f caps] [(1000000,.ghost Y (some O))] (A6 (E3 (λe=>!J9 g (B3 e)) l)) [(1000000,.ghost Y (Jq g O (Cx l)))]:=by
 refine bB func273 ?_;refine sR tC ?_;refine kR tC λK1 u1=>?_;refine bA (A0.ii l (X:=Unit) (λj _=>[(0,.d (.slice (Ed l))),(1,.Bi f caps),(7,A6 l.length),(8,A6 j)]) (λj _=>[(1000000,.ghost Y (some (O+(Cx (l.take j)).length)))]) (λj _=>J9 g (Cx (l.take j))=true/\∀y,y∈l.take j->(!J9 g (B3 y))=false) () (by simp[Cx,J9]) sS (by simp[ble,A9,Cx]) ?_ ?_);intro _ L;rw[Ca]at L |-;refine Ak B1 tC ?_;refine A0.stop rfl ?_;simp only[Aa,Af,Av];refine u1 _ _<|sR tC ?_;rw[T5 L.2];unfold Jq;rw[A7 L.1];exact A0.ret ⟨_,by rw[results273];rfl,.inr rfl,by simp[ble,A9]⟩
 .intro j _ d hd W dp tk a0 L;have a1:Rx g Y (O+(Cx (l.take j)).length) (B3 d):=by
   have J:l=l.take j++(d::l.drop (j+1)):=by rw[<-dp,Ue]
   rw[J,CD,Cx]at I;exact I.right.left
  have E:=hc d W _ a1;refine Ak a0 tC ?_;refine kA rfl<|sK λK2 u2=>bA<|sR tC ?_;cases U:J9 g (B3 d)with
  |true =>unfold Jq at E;rw[U,A7 rfl]at E;refine jA tC [700016] (by decide +kernel) λK z=>?_;refine ev ?_;refine ci (Ey hd) ?_;refine⟨_,_,_,V d,E,rfl,?_⟩;(try refine ev ?_);apply z;refine dA rfl (cA (u2 _ _ ?_));(refine lV tC λK z=>?_;refine⟨by first| (unfold B6;omega)| (simp only[B6,lim]at*;omega),?_⟩;(try refine ev ?_);apply z;try simp only[Aa,]);refine⟨(),?_,sS,?_⟩;rw[tk,CD,mJ,L.1,EX,U];refine⟨rfl,λy hy=>?_⟩;rcases Bj.1 hy with hy|hy;exact L.2 y hy;rw[Pj.1 hy,U];rfl;rw[tk,CD,EX,B5,<-Uf];simp[ble,A9]
  |false =>
   unfold Jq at E;rw[U,A5 (by decide)]at E;refine jA tC [700016] (by decide +kernel) λK z=>?_;refine ev ?_;refine ci (Ey hd) ?_;refine⟨_,_,_,V d,E,rfl,?_⟩;(try refine ev ?_);apply z;refine eA rfl<|sR tC ?_;rw[Rv hd (by rw[U];rfl) L.2];have J:l=l.take j++(d::l.drop (j+1)):=by rw[<-dp,Ue]
   have Z:Jq g O (Cx l)=none:=by unfold Jq;rw[A5];rw[J,CD,Cx,mJ,mJ,U];simp
   rw[Z];exact A0.ret ⟨_,by rw[results273];rfl,.inr rfl,by simp[ble,A9]⟩
theorem H8e(g:Ex->Bool)(l:List Ex):decide (E3 (λe=>!J9 g (B3 e)) l >= 0) = !J9 g (Cx l):=by
 have O:∀l:List Ex,(∀x,x∈l->J9 g (B3 x)=true)->J9 g (Cx l)=true:=by
  intro l
  induction l with
  |nil=>intro _;simp[Cx,J9]
  |cons e l I =>intro h;rw[Cx,mJ,h e (by simp),I λx U=>h x (by simp[U])];rfl
 unfold E3;cases h:l.findIdx? (λe=>!J9 g (B3 e))with
 |none =>
  have L:∀x,x∈l->J9 g (B3 x)=true:=by simpa [vR]using h
  rw[O l L];rfl
 |some j =>
  obtain⟨V,J,_⟩:=MG.1 h;have hd:l=l.take j++(l[j]::l.drop (j+1)):=by rw[List.getElem_cons_drop,Ue]
  have E:J9 g (B3 l[j])=false:=by simpa using J
  rw[hd,CD,Cx,mJ,mJ,E];simp
theorem H6h(g:Ex->Bool)(f:FuncId)(caps:List SV)(L:Gz [] caps=some caps)(J:∀x:Ex,Gz [] (D6 x::caps)=some (D6 x::caps))(Y:Hq)(l:List Ex)(O:l.length<=lim)(E:Nat)(I:Rx g Y E (Cx l))
  (U:∀e,e∈l->∀j,Rx g Y j (B3 e)->Ci prog f (D6 e::caps) [(1000000,.ghost Y (some j))] (Ar (!J9 g (B3 e))) [(1000000,.ghost Y (Jq g j (B3 e)))]) :
  Ci prog 202 [.d (.slice (Ed l)),.Bi f caps] [(1000000,.ghost Y (some E))] (Ar (!J9 g (Cx l))) [(1000000,.ghost Y (Jq g E (Cx l)))]:=by have h:=G9f g f caps J Y l O E I U;rw[<-H8e g];generalize E3 (λe=>!J9 g (B3 e)) l=k at*;generalize Jq g E (Cx l)=st at*;refine bB func202 ?_;refine sR [0,1,4,1000000] ?_;refine jA [0,1,4,1000000] [700007] (by decide +kernel) λK z=>?_;refine ev ?_;refine⟨_,_,_,(by rw[L]),h,rfl,?_⟩;(try refine ev ?_);apply z;exact A0.ret ⟨_,by rw[results202];rfl,.inr rfl,by simp[ble,A9]⟩
abbrev IH:=[0,1,2,3,4,5,9,1000000]
theorem G8s(g:Ex->Bool)(Y:Hq):∀(e:Ex)(j:Nat),Rx g Y j (B3 e)->Ci prog 141 [D6 e,.Fg Y.l] [(1000000,.ghost Y (some j))] (Ar (J9 g (B3 e))) [(1000000,.ghost Y (Jq g j (B3 e)))]:=by
 intro e
 induction e using Ex.induct with
 |h e ih =>
 intro j J;refine Ci.bd (Enters.of func141 rfl (by decide)) λZ=>?_;have a2:=(cU Z.1).kids.1;have hP:=J.P;have V:=J.at_ 0 e (by rw[L0];rfl);have hN:j<Y.N:=by have:=J.N;rw[L0,Bg]at this;omega
 rw[Nd]at V;have W:∀k,k∈e.kids->∀i,Rx g Y i (B3 k)->Ci prog 201 [D6 k,.Fy [.Fg Y.l] 0] [(1000000,.ghost Y (some i))] (Ar (!J9 g (B3 k))) [(1000000,.ghost Y (Jq g i (B3 k)))]:=by intro k U i hi;have:=ih k U i hi;generalize J9 g (B3 k)=bb at*;generalize Jq g i (B3 k)=st at*;refine bB func201 ?_;refine sR [0,1,2,3,1000000] ?_;refine jA [0,1,2,3,1000000] [700006] (by decide +kernel) λK z=>?_;refine ev ?_;refine⟨_,_,_,rfl,this,rfl,?_⟩;(try refine ev ?_);apply z;exact A0.ret ⟨_,by rw[results201];rfl,.inr rfl,by simp[ble,A9]⟩
 by_cases U:g e=true
 .have a0:Rx g Y (j+1) (Cx e.kids):=by
   have:=J;rw[L0,show e::Cx e.kids=[e]++Cx e.kids from rfl]at this;exact this.right
  have a1:=H6h g 201 [.Fy [.Fg Y.l] 0] rfl (λ_=>rfl) Y e.kids a2 (j+1) a0 W;have E:J9 g (B3 e)=J9 g (Cx e.kids):=by rw[L0];simp[J9,U]
  have L:Jq g j (B3 e)=Jq g (j+1) (Cx e.kids):=by
   unfold Jq;rw[E,L0,Bg];split
   .congr 1;omega
   .rfl
  rw[E,L];have I:Y.go j=true:=by rw[V.2,U]
  have O:Y.next j=some (j+1):=by unfold Hq.next;rw[A7 I]
  generalize J9 g (Cx e.kids)=bb at*;generalize Jq g (j+1) (Cx e.kids)=st at*;refine bB func141 ?_;refine sR IH<|sK λK1 u1=>?_
  (refine jA IH [700008] (by decide +kernel) λK z=>?_;refine G1 I O ?_;refine⟨_,rfl,hP,hN,V.1,?_⟩;(try refine G1 I O ?_);apply z)
  refine kI u1 ?_;refine SB 3 rfl rfl (wk [(0,D6 e),(1,.Fg Y.l),(2,.box 2 0),(3,.Fy [.Fg Y.l] 0),(4,.d (.bool false))] [(2,.cells (exS e)),(1000000,.ghost Y (some (j+1)))] ?_);refine sR IH ?_
  (refine jA IH [700014] (by decide +kernel) λK z=>?_;refine ev ?_;refine⟨_,_,_,rfl,a1,rfl,?_⟩;(try simp -implicitDefEqProofs only[EV,Nat.reduceEqDiff,reduceCtorEq,Bool.not_not]);apply z)
  exact A0.ret ⟨_,by rw[results141];rfl,.inr rfl,by simp[ble,A9]⟩
 .have I:Y.go j=false:=by rw[V.2];simpa using U
  have O:Y.next j=none:=by unfold Hq.next;rw[A5 (by rw[I];decide)]
  have E:J9 g (B3 e)=false:=by rw[L0];simp[J9,U]
  have L:Jq g j (B3 e)=none:=by unfold Jq;rw[E];rfl
  rw[E,L];refine bB func141 ?_;refine sR IH<|sK λK1 u1=>?_
  (refine jA IH [700008] (by decide +kernel) λK z=>?_;refine G1 I O ?_;refine⟨_,rfl,hP,hN,V.1,?_⟩;(try refine G1 I O ?_);apply z)
  refine tI ?_;refine sR IH ?_;exact A0.ret ⟨_,by rw[results141];rfl,.inr rfl,by simp[ble,A9]⟩
theorem si(e:Ex):Ci prog 68 [D6 e] [] (.Bi 140 [.A8 (Ce e) 0]) []:=by refine bB func68 ?_;refine sR [0,1,2] ?_;refine gA 1 rfl rfl<|sR [0,1,2] ?_;exact A0.ret ⟨_,by rw[results68];rfl,.inr rfl,by simp[ble]⟩
theorem DZ(g:Ex->Bool)(e:Ex)(Y:Hq)(E:Rx g Y 0 (B3 e)):Ci prog 140 [.Fg Y.l,.A8 (Ce e) 0] [(1000000,.ghost Y (some 0))] (.tuple []) [(1000000,.ghost Y (Jq g 0 (B3 e)))]:=by have I:=G8s g Y e 0 E;refine bB func140 ?_;(refine xA [0,1,1000000] [700005] (by decide +kernel) λK z=>?_;refine ev ?_;refine⟨_,_,_,rfl,I,rfl,?_⟩;(try refine ev ?_);apply z;try simp only[Aa,Af,Av]);exact⟨_,by rw[results140];rfl,.inr rfl,by simp[ble,A9]⟩
abbrev Rq:=[0,2,3,5,6,8,9,10,11,12,20,24,25,26,27,28]
theorem nx(E:List (List Ty))(hl:E.length<=sm)(hn:(E.map List.length).sum<=2*sm):Ci prog 88 [.d (.slice (R5 E))] [] (.acc 24) [(24,.rows 3 (Au E.flatten))]:=by
 refine bB func88 ?_;refine sR Rq ?_;refine sR Rq ?_;refine kR Rq λO u1=>?_;refine bA (A0.ii E (X:=Unit) (λj _=>[(0,.d (.slice (R5 E))),(3,A6 (((E.take j).map List.length).sum:Nat)),(9,.d (.slice (R5 E))),(10,A6 E.length),(11,A6 j)]) (λ_ _=>[]) (λj _=>True) () trivial (by simp[sle,B0,Ae,R5]) sB ?_ ?_)
 .intro _ _;rw[Ca];refine Ak B1 Rq ?_;refine A0.stop rfl ?_;simp only[Aa,Af,Av];apply u1;refine jA Rq [800024] (by decide +kernel) λK z=>?_;refine ev ?_;refine⟨_,_,_,xP 24 rfl rfl rfl (c7 _ (by unfold sm at hn;omega)) rfl (by decide) rfl,?_⟩;simp only[SV.Fi,SJ,Av];(try refine ev ?_);apply z;refine kR Rq λO u1=>?_;refine bA (A0.ii E (X:=Unit) (λj _=>[(6,.acc 24),(25,.d (.slice (R5 E))),(26,A6 E.length),(27,A6 j)]) (λj _=>[(24,.rows 3 (Au (E.take j).flatten))]) (λj _=>True) () trivial (by simp[sle,B0,Ae,R5]) (by simp[ble,A9,Cq]) ?_ ?_);intro _ _;rw[Ca];refine Ak B1 Rq ?_;refine A0.stop rfl ?_;simp only[Aa,Af,Av];apply u1;refine sR Rq ?_;exact A0.ret ⟨_,by rw[results88];rfl,.inl rfl,by simp[ble,A9]⟩
  .intro j _ d hd L W tk J Z;have I:=bJ E (j+1);rw[tk,Gy,Z3]at I;simp only[Cj,G5,Jy,List.sum_nil,Nd]at I;rw[tk,List.flatten_append,AJ,List.flatten_nil,Fv];refine Ak J Rq ?_;refine kA rfl<|sK λU u2=>bA<|sI (JN hd) [0,2,3,5,6,8,9,10,11,12,20,24,25,26,27,28] ?_
   (refine lV Rq λK z=>?_;refine⟨R3 _,by rw[List.length_flatten];unfold lim sm at*;omega,?_⟩;(try refine ev ?_);apply z;try simp only[Aa,Af]);apply u2;refine lT Rq ?_;exact⟨(),trivial,sS,by simp[ble,A9,Cq]⟩
 .intro j _ d hd L W tk J Z;have I:=bJ E (j+1);rw[tk,Gy,Z3]at I;simp only[Cj,G5,Jy,List.sum_nil,Nd]at I;have V:¬(((((E.take j).map List.length).sum:Nat):Int)+(d.length:Int)<0):=by omega
  rw[tk,Gy,Z3];simp only[Cj,G5,Jy,List.sum_nil,Nd];refine Ak J Rq ?_;refine kA rfl<|sK λU u2=>bA<|sI (JN hd) [0,2,3,5,6,8,9,10,11,12,20,24,25,26,27,28] ?_
  refine sV Rq λK z=>?_;refine ca ?_;apply z;refine Ak V Rq ?_;refine dA rfl (cA (u2 _ _ ?_));refine lT Rq ?_;exact⟨(),trivial,sS,sB⟩
abbrev dF:=[0,2,3,5,6,7,8,9]
theorem ja(l:List Aj)(V:l.length<=2000):Ab prog 89 [.d (.slice (Ai l))] (.d (.slice (Au (Gs l)))):=by
 refine cB func89 ?_;refine sR dF ?_;refine sR dF ?_;refine A0.pp 3 3 3 rfl<|kR dF λL u1=>?_;refine bA (A0.ii l (X:=Unit) (λj _=>[(3,.acc 3),(6,.d (.slice (Ai l))),(7,A6 l.length),(8,A6 j)]) (λj _=>[(3,.rows 3 (Au (Gs (l.take j))))]) (λ_ _=>True) () trivial sS (by simp[ble,A9,Gs,Cq]) ?_ ?_)
 rotate_left
 .intro j _ u I J W tk E _;have U:=(Az.1 I).1;rw[tk];refine Ak E dF ?_;refine kA rfl<|sK λO u2=>bA<|sI (Fm I) [0,2,3,5,6,7,8,9] ?_
  (refine lV dF λK z=>?_;refine⟨by simp,by(try simp only[Gs,B7,Dh]);unfold lim;omega,?_⟩;(try refine ev ?_);apply z;try simp only[Aa,Af]);apply u2;(refine lV dF λK z=>?_;refine cl ?_;apply z;try simp only[Aa,]);exact⟨(),trivial,sS,by simp[ble,A9,Cq,Gs,Bf]⟩
 intro _ _;rw[Ca];refine Ak B1 dF ?_;refine A0.stop rfl ?_;simp only[Aa,Af,Av];apply u1;refine sR dF ?_;exact aR
abbrev yE:=[0,2,3,5,6,7,8,9]
theorem x3(l:List Param)(V:l.length<=2000):Ab prog 90 [.d (.slice (Aw l))] (.d (.slice (Au (H5 l)))):=by
 refine cB func90 ?_;refine sR yE ?_;refine sR yE ?_;refine A0.pp 3 3 3 rfl<|kR yE λL u1=>?_;refine bA (A0.ii l (X:=Unit) (λj _=>[(3,.acc 3),(6,.d (.slice (Aw l))),(7,A6 l.length),(8,A6 j)]) (λj _=>[(3,.rows 3 (Au (H5 (l.take j))))]) (λ_ _=>True) () trivial sS (by simp[ble,A9,H5,Cq]) ?_ ?_)
 rotate_left
 .intro j _ u I J W tk E _;have U:=(Az.1 I).1;rw[tk];refine Ak E yE ?_;refine kA rfl<|sK λO u2=>bA<|sI (Dt I) [0,2,3,5,6,7,8,9] ?_
  (refine lV yE λK z=>?_;refine⟨by simp,by(try simp only[H5,B7,Dh]);unfold lim;omega,?_⟩;(try refine ev ?_);apply z;try simp only[Aa,Af]);apply u2;(refine lV yE λK z=>?_;refine cl ?_;apply z;try simp only[Aa,]);exact⟨(),trivial,sS,by simp[ble,A9,Cq,H5,Bf]⟩
 intro _ _;rw[Ca];refine Ak B1 yE ?_;refine A0.stop rfl ?_;simp only[Aa,Af,Av];apply u1;refine sR yE ?_;exact aR
abbrev yG:Ji:=⟨[],[],[],[]⟩
abbrev yR:Ji:=⟨[],[],[10],[10]⟩
theorem vh(s:A4)(hs:s.Le):Ab prog 91 [Db s] (.d (.slice (Au (Lw s)))):=by have O:=ja s.A1 hs.A1;have J:=x3 s.params hs.params;have I:=hs.A1;have L:=hs.params;have E:=nx [Gs s.A1,H5 s.params] (show 2<=sm by decide) (by simp only[Cj,G5,Jy,List.sum_nil,Gs,H5,B7];unfold sm;omega);simp only[R5,Cj,G5,AJ,List.flatten_nil,Fv]at E;unfold Lw;rw[VO (Gs s.A1++H5 s.params),show Au [s.result]=[Bf s.result] by simp[Cq]];refine cB func91 ?_;refine sR [0,1,2] ?_;refine sG [0,1,2,10] [10] 11 [yG,yG,yG,yG,yG,yG,yG,⟨[10],[10],[],[]⟩,yR,yR,yR] λK z=>?_;refine ev ?_;refine cc O ?_;refine cc J ?_;refine⟨_,_,_,_,_,rfl,E,?_⟩;(try refine ev ?_);refine⟨by simp,by(try simp only[Gs,H5,B5,B7]);unfold lim;omega,?_⟩;(try refine ev ?_);apply z;exact aR
abbrev jD:=[0,1,2,3,4,6,7,19,900,2000003]
theorem x5(e:Ex)(he:e.Le):Ab prog 92 [D6 e] (.d (.slice (Au (Nc e)))):=by
 have hA:=si e;have L:Jq (λ_=>true) 0 (B3 e)=some (B3 e).length:=by simp[Jq,J9]
 have a0:=he.Dr;unfold Nc at*;have U:∀j,(Iy ((B3 e).take j)).length<=(Iy (B3 e)).length:=λj=>by
  conv=>rhs;rw[<-Ue j (B3 e),zI,B5]
  omega
 refine cB func92 ?_;refine sR jD ?_;refine sR jD ?_;refine rA 900 3 3 0 rfl rfl (by decide)<|kC hA jD λK1 u1=>?_;refine bA (A0.rangeFunc (caps:=[.A8 (Ce e) 0]) (caps':=[.A8 (Ce e) 0]) (f:=140) (r:=.tuple []) (N:=(B3 e).length) (xs:=λi=>D6 (((B3 e)[i]?).getD e)) (go:=λ_=>true) (jump:=.ret) (ks:=[2000003,900]) (slR:=[(3,.box 2000003 0)]) (mb:=λst=>match st with|some j=>[(2000003,.cells [.acc 900]),(900,.rows 3 (Au (Iy ((B3 e).take j))))]|none=>[]) (st:=Jq (λ_=>true) 0 (B3 e)) ⟨⟨_,rfl⟩,by decide,by decide,rfl,λst=>by cases st <;> rfl,by decide,λ_=>rfl,?_⟩ (λst=>by cases st <;> simp) rfl rfl ?_ ⟨.inr (.inl rfl),trivial⟩ ⟨rfl,rfl,trivial⟩ ?_ ?_)
 .intro j J a1 l;have hx:=Bu J;have V:=U j;have I:=U (j+1);have E:Iy ((B3 e).take (j+1))=Iy ((B3 e).take j)++Wi (B3 e)[j]:=by rw[Kj J,zI];simp[Iy]
  rw[E,B5]at I;obtain⟨A,O⟩:∃A,Iy ((B3 e).take j)=A:=⟨_,rfl⟩;rw[O]at V I E;generalize(B3 e)[j]=x at*;simp only[hx,Dx];(refine lV jD λK z=>?_;apply z;try simp only[Aa,]);refine⟨rfl,?_⟩;refine bA ?_;unfold Wi at*;rw[B5]at I;refine sQ jD λK z=>?_;refine Bb O ?_;refine⟨R3 _,by(try simp only[Cq,B5,B7]);unfold lim;omega,?_⟩;(try refine Bb O ?_);apply z;by_cases k3:x.kind=3;have d3:decide (x.kind=3)=true:=Bn k3;rw[A7 (.inl k3)]at I E;refine Ak d3 jD ?_;refine eA rfl ?_;(refine VB [0,1,2,3,4,6,7,19,900,2000003] [] 9 4 23 25 gl mixed (by decide +kernel) (by decide +kernel) _ rfl rfl rfl rfl rfl (by simp only[xV]) (by simp only[uM]) (by simp only[uM];rfl) λK z=>?_;refine ev ?_;refine⟨by simp,by(try simp only[Cq,B5,B7,Bg,Ck]at*);unfold lim;omega,?_⟩;(try refine ev ?_);refine⟨by omega,by simp,DI,Bf x.type,by simp,rfl,by decide,?_⟩;(try refine ev ?_);apply z;try simp only[Af]);refine⟨rfl,?_⟩;simp[ble,A9,E,Cq,Bf];by_cases W:x.kind=5;have d5:decide (x.kind=5)=true:=Bn W;rw[A7 (.inr W)]at I E;refine Ee d5 k3 jD ?_;refine eA rfl ?_;(refine VB [0,1,2,3,4,6,7,19,900,2000003] [] 9 4 23 25 gl mixed (by decide +kernel) (by decide +kernel) _ rfl rfl rfl rfl rfl (by simp only[xV]) (by simp only[uM]) (by simp only[uM];rfl) λK z=>?_;refine ev ?_;refine⟨by simp,by(try simp only[Cq,B5,B7,Bg,Ck]at*);unfold lim;omega,?_⟩;(try refine ev ?_);refine⟨by omega,by simp,DI,Bf x.type,by simp,rfl,by decide,?_⟩;(try refine ev ?_);apply z;try simp only[Af]);refine⟨rfl,?_⟩;simp[ble,A9,E,Cq,Bf];rw[A5 (by rintro(h|h) <;> contradiction),Fv]at E;refine Ee k3 W jD ?_;refine dA rfl (cA ⟨rfl,?_⟩);simp[ble,A9,E,Cq]
 intro Y hP hN Z hg;refine DZ (λ_=>true) e Y ⟨hP,by rw[hN];omega,λi x hx=>?_⟩;rw[Z,hg];simp[hx];intro j J _;rw[L]at J;obtain rfl:=Tf J;simp only[Aa,Af];refine u1 _ _ (A0.ww (sl':=[(3,.box 3 0)]) (bx':=[(3,.cells [.acc 900]),(900,.rows 3 (Au (Iy (B3 e))))]) ⟨.inr (.inl rfl),trivial⟩ ⟨rfl,by rw[Ca];rfl,trivial⟩ ?_);refine sR jD ?_;exact aR;intro J;rw[L]at J;cases J
abbrev vE:=[0,1,4,5,7,8,9,10,11]
theorem H2m(l:List Ty)(W:l.length<=2900000000000)(hs:∀t,t∈l->t.Sm):Ab prog 93 [.d (.slice (Au l)),.Bi 94 []] (.d (.slice (Au l))):=by
 refine cB func93 ?_;refine sR vE ?_;refine sR vE ?_;refine A0.pp 5 3 5 rfl<|kR vE λO u1=>?_;refine bA (A0.ii l (X:=Unit) (λj _=>[(1,.Bi 94 []),(5,.acc 5),(8,.d (.slice (Au l))),(9,A6 l.length),(10,A6 j)]) (λj _=>[(5,.rows 3 (Au (l.take j)))]) (λ_ _=>True) () trivial sS (by simp[ble,A9,Cq]) ?_ ?_)
 rotate_left
 .intro j _ u L E Z tk J _;have V:=(Az.1 L).1;have I:=IF u (hs u E);rw[tk];refine Ak J vE ?_;refine kA rfl<|sK λU u2=>bA<|sI (Fs L) [0,1,4,5,7,8,9,10,11] ?_
  (refine lV vE λK z=>?_;refine cc I ?_;refine⟨by simp,by(try simp only[Dh]);unfold lim;omega,?_⟩;(try refine ev ?_);apply z;try simp only[Aa,Af]);apply u2;(refine lV vE λK z=>?_;refine cl ?_;apply z;try simp only[Aa,]);exact⟨(),trivial,sS,by simp[ble,A9,Cq,Bf,Ty.name,Ty.args,Ty.pos]⟩
 intro _ _;rw[Ca];refine Ak B1 vE ?_;refine A0.stop rfl ?_;simp only[Aa,Af,Av];apply u1;refine sR vE ?_;exact aR
theorem tW{p:Prog}(h:p.Sm):∀t,t∈Lj p->t.Sm:=by
 have I:∀e:Ex,e.Sm->∀x,x∈B3 e->OC Ty.Sm x:=λe L x I=>by have:=HJ (Q:=Ex.Sm) (λe h x I=>h.kids.2 x I) e L x I;exact⟨λ_=>this.type,this.targs.2⟩
 have hs:∀s:A4,s.Sm->rL Ty.Sm s:=λs hs=>⟨λf E=>(hs.A1.2 f E).bound,λf E=>(hs.params.2 f E).type,hs.result⟩;refine MX (λd hd=>?_) (I p.main h.main);have hd:=h.decls.2 d hd;exact⟨λf E=>(hd.A1.2 f E).bound,λf E=>(hd.fields.2 f E).type,λs J=>hs s (hd.sigs.2 s J),λ_=>hs _ hd.sig,λ_=>I _ hd.body⟩
abbrev Rg:=[0,1,2,3,5,7,9,10,11,12,26,27,28,29,39]
theorem wi(p:Prog)(hp:p.Le)(ae:∀t,t∈Lj p->t.Sm):Ab prog 35 [Cs p] (.d (.slice (Au (Lj p)))):=by
 have ak:=hp.yC;have aa:=x5 p.main hp.main;have a9:=hp.main.Dr;have ab:=sk hp.yC hp.decls;have O:=H2m (Lj p) (by have:=bP hp;omega) ae;unfold Lj at O |-;rw[VO]at O |-;refine cB func35 ?_;refine sR Rg ?_;refine sR Rg ?_;refine A0.pp 3 3 3 rfl<|kR Rg λK1 u1=>?_;refine bA (A0.ii p.decls (X:=Unit) (λj _=>[(1,.box 1 0),(3,.acc 3),(9,.d (.slice (Bx p.decls))),(10,A6 p.decls.length),(11,A6 j)]) (λj _=>[(1,.cells ((Ah p).map .d)),(3,.rows 3 (Au (Pd (p.decls.take j))))]) (λ_ _=>True) () trivial sS (by simp[ble,A9,Pd,Cq,Ah]) ?_ ?_)
 rotate_left
 .intro j _ d hd a1 dp tk a5 _;have a':=ab j;have E:=hp.decls d a1;have a3:=E.A1;have a6:=E.fields;have ai:=E.xC;have ad:=p0 E.xC E.sigs;have af:=ja d.A1 a3;have ac:=x3 d.fields a6;have a7:=vh d.sig E.sig;have a8:=x5 d.body E.body;have ao:=eI E.sig;have ap:=E.body.Dr;have W:=df [Gs d.A1,H5 d.fields] (show 2<=sm by decide) (by simp only[Cj,G5,Jy,List.sum_nil,Gs,H5,B7];unfold sm;omega);have V:=df [Lw d.sig,Nc d.body] (show 2<=sm by decide) (by simp only[Cj,G5,Jy,List.sum_nil];unfold sm;omega);simp only[R5,Cj,G5,AJ,List.flatten_nil,Fv]at W V;rw[tk];have a0:Pd (p.decls.take j++[d])=Pd (p.decls.take j)++(Gs d.A1++H5 d.fields)++Lk d.sigs++Rz d:=by simp[Pd,X6]
  rw[a0];have ag:(Gs d.A1++H5 d.fields).length<=4000:=by simp only[Gs,H5,B5,B7];omega
  generalize Pd (p.decls.take j)=A at*;generalize Gs d.A1++H5 d.fields=FP at*;refine Ak a5 Rg ?_;refine kA rfl<|sK λK2 u2=>bA<|sI (E6 hd) [0,1,2,3,5,7,9,10,11,12,26,27,28,29,39] ?_
  refine sG Rg [] 9 [] λK z=>?_;refine ev ?_;refine cc af ?_;refine cc ac ?_;refine cc W ?_;refine⟨R3 _,by(try simp only[Cq,B7]);unfold lim;omega,?_⟩;(try refine ev ?_);apply z;refine kR Rg λK3 u3=>?_;refine bA (A0.ii d.sigs (X:=Unit) (λi _=>[(1,.box 1 0),(3,.acc 3),(5,.box 5 0),(9,.d (.slice (Bx p.decls))),(10,A6 p.decls.length),(11,A6 j),(26,.d (.slice (B4 d.sigs))),(27,A6 d.sigs.length),(28,A6 i)]) (λi _=>[(1,.cells ((Ah p).map .d)),(3,.rows 3 (Au (A++FP++Lk (d.sigs.take i)))),(5,.cells (Ti d))]) (λ_ _=>True) () trivial sS (by simp[ble,A9,Lk,Cq,Ah]) ?_ ?_);rotate_left
  .intro i _ u hu I a2 J Z _;have aj:=(Az.1 hu).1;have aq:=eI (E.sigs u I);have a4:=vh u (E.sigs u I);have am:=ad i;rw[J,show Lk (d.sigs.take i++[u])=Lk (d.sigs.take i)++Lw u by simp[Lk],<-H3];generalize Lk (d.sigs.take i)=B at*;generalize Lw u=U at*;refine Ak Z Rg ?_;refine kA rfl<|sK λK4 u4=>bA<|sI (Dg hu) [0,1,2,3,5,7,9,10,11,12,26,27,28,29,39] ?_
   (refine lV Rg λK z=>?_;refine cc a4 ?_;refine⟨R3 _,by(try simp only[B5]);unfold lim;omega,?_⟩;(try refine ev ?_);apply z;try simp only[Aa,Af]);apply u4;(refine lV Rg λK z=>?_;refine cl ?_;apply z;try simp only[Aa,]);exact⟨(),trivial,sS,by simp[ble,A9,Cq,Ah]⟩
  intro _ _;rw[Ca];refine Ak B1 Rg ?_;refine A0.stop rfl ?_;simp only[Aa,Af,Av];apply u3;have ah:=XQ E.xC E.sigs;generalize Lk d.sigs=B at*;by_cases k3:d.kind=3
  .have d3:=Bn k3;have a9:(Lw d.sig++Nc d.body).length<=6001:=by rw[B5];omega
   have L:Rz d=Lw d.sig++Nc d.body:=by unfold Rz;rw[A7 k3]
   generalize Lw d.sig++Nc d.body=M at*;refine Ak d3 Rg ?_;refine eA rfl ?_;(refine lG Rg [] 9 [] λK z=>?_;refine ev ?_;refine cc a7 ?_;refine cc a8 ?_;refine cc V ?_;refine⟨R3 _,by(try simp only[B5]);unfold lim;omega,?_⟩;(try refine ev ?_);apply z;try simp only[Aa,Af]);apply u2;(refine lV Rg λK z=>?_;refine cl ?_;apply z;try simp only[Aa,]);exact⟨(),trivial,sS,by simp[ble,A9,Cq,Ah,L]⟩
  .have L:Rz d=[]:=by unfold Rz;rw[A5 k3]
   refine Ak k3 Rg ?_;refine dA rfl (cA (u2 _ _ ?_));(refine lV Rg λK z=>?_;refine cl ?_;apply z;try simp only[Aa,]);exact⟨(),trivial,sS,by simp[ble,A9,Cq,Ah,L]⟩
 intro _ _;rw[Ca];have a':=WQ hp.yC hp.decls;refine Ak B1 Rg ?_;refine A0.stop rfl ?_;simp only[Aa,Af,Av];apply u1;refine pG [1,2] [] 5 3 [(1,.box 1 0),(55,.d (.slice (Au (Pd p.decls)++Au (Nc p.main))))] [(1,.cells ((Ah p).map .d))] (by decide +kernel) (by decide +kernel) ?_ λK hK=>?_;refine ev ?_;refine⟨_,.inl ⟨_,rfl,aa,rfl⟩,?_⟩;(try refine ev ?_);refine⟨R3 _,by(try simp only[Cq,B5,B7]);unfold lim;omega,?_⟩;(try simp -implicitDefEqProofs only[EV,D8,M6,Mp,Nat.reduceAdd,Nat.reduceEqDiff,Nat.reduceBEq,Nat.reduceLeDiff,Nat.reduceSub,Nat.reduceMul,Int.reduceEq,Int.reduceLT,Int.reduceLE,Int.reduceSub,Int.reduceAdd,Int.reduceToNat,reduceCtorEq,Int.reduceNeg]);exact⟨_,_,rfl,⟨.inr (.inl rfl),.inr (.inl rfl),trivial⟩,⟨rfl,trivial⟩⟩;refine ev ?_;refine⟨_,.inl ⟨_,rfl,O,rfl⟩,?_⟩;(try refine ev ?_);refine hK _ _ ?_;exact aR
theorem G4e(p:Prog)(hp:p.Le)(E:p.Sm):Ab prog 35 [Cs p] (.d (.slice (Au (Lj p)))):=wi p hp (tW E)
theorem H1w(f:FuncId)(ys:List D)(x:Decl)(b:Bool)(h:I5 prog (.cl f ys) [Hw x] (Ar b)):Ab prog 143 [Hw x,.A8 [.cl f ys] 0] (Ar (!b)):=by refine cB func143 ?_;refine sR [0,1,2,3] ?_;refine sV [0,1,2,3] λK z=>?_;refine⟨_,Ly rfl h rfl,?_⟩;(try refine ev ?_);apply z;exact aR
theorem dy(f:FuncId)(ys:List D)(x:A4)(b:Bool)(h:I5 prog (.cl f ys) [Db x] (Ar b)):Ab prog 145 [Db x,.A8 [.cl f ys] 0] (Ar (!b)):=by refine cB func145 ?_;refine sR [0,1,2,3] ?_;refine sV [0,1,2,3] λK z=>?_;refine⟨_,Ly rfl h rfl,?_⟩;(try refine ev ?_);apply z;exact aR
theorem H2t(f:FuncId)(ys:List D)(p:Decl->Bool)(l:List Decl)(J:l.length<=sm)(h:∀x,x∈l->I5 prog (.cl f ys) [Hw x] (Ar (p x))):Ab prog 69 [.d (.slice (Bx l)),.d (.cl f ys)] (Ar (l.all p)):=by
 have E:=ZT 143 [.ptr [.cl f ys]] (λx=>!p x) l J λx I=>⟨_,[.A8 [.cl f ys] 0],_,_,rfl,⟨⟨rfl,rfl⟩,trivial⟩,rfl,H1w f ys x _ (h x I)⟩;have e:l.all p = !(l.any λx=>!p x):=by rw[List.not_any_eq_all_not];simp
 rw[e];generalize l.any (λx=>!p x)=b at*;refine cB func69 ?_;refine sR [0,1,3,4] ?_;refine gA 3 rfl rfl (wk [(0,.d (.slice (Bx l))),(3,.A8 [.cl f ys] 0)] [] ?_);refine jA [0,1,3,4] [800006] (by decide +kernel) λK z=>?_;refine ev ?_;refine⟨_,Jp (xs:=[.A8 [.cl f ys] 0]) (ys:=[.ptr [.cl f ys]]) ⟨⟨rfl,rfl⟩,trivial⟩ rfl,?_⟩;(try refine ev ?_);refine cc E ?_;apply z;exact aR
theorem G0c(f:FuncId)(ys:List D)(p:A4->Bool)(l:List A4)(J:l.length<=sm)(h:∀x,x∈l->I5 prog (.cl f ys) [Db x] (Ar (p x))):Ab prog 71 [.d (.slice (B4 l)),.d (.cl f ys)] (Ar (l.all p)):=by
 have E:=sZ 145 [.ptr [.cl f ys]] (λx=>!p x) l J λx I=>⟨_,[.A8 [.cl f ys] 0],_,_,rfl,⟨⟨rfl,rfl⟩,trivial⟩,rfl,dy f ys x _ (h x I)⟩;have e:l.all p = !(l.any λx=>!p x):=by rw[List.not_any_eq_all_not];simp
 rw[e];generalize l.any (λx=>!p x)=b at*;refine cB func71 ?_;refine sR [0,1,3,4] ?_;refine gA 3 rfl rfl (wk [(0,.d (.slice (B4 l))),(3,.A8 [.cl f ys] 0)] [] ?_);refine jA [0,1,3,4] [800006] (by decide +kernel) λK z=>?_;refine ev ?_;refine⟨_,Jp (xs:=[.A8 [.cl f ys] 0]) (ys:=[.ptr [.cl f ys]]) ⟨⟨rfl,rfl⟩,trivial⟩ rfl,?_⟩;(try refine ev ?_);refine cc E ?_;apply z;exact aR
theorem H1q(s:A4):Ab prog 66 [Db s] (Ar (decide (s.A1.length=0))):=by
 have e:decide (s.A1.length=0)=decide ((s.A1.length:Int)=0):=by simp
 rw[e];refine cB func66 ?_;refine sR [0,1,2] ?_;refine sR [0,1,2] ?_;exact aR
abbrev TG:=[0,1,2,3,5,6,10,2000002]
theorem G5y(e:Ex):Ab prog 67 [D6 e] (Ar (Ku e)):=by
 have hA:=si e;have O:Ku e=J9 (λx=>decide (x.targs.length=0)) (B3 e):=rfl;rw[O];refine cB func67 ?_;refine sR TG ?_;refine kC hA TG λK1 u1=>?_;refine bA (A0.rangeFunc (caps:=[.A8 (Ce e) 0]) (caps':=[.A8 (Ce e) 0]) (f:=140) (r:=.tuple []) (N:=(B3 e).length) (xs:=λi=>D6 (((B3 e)[i]?).getD e)) (go:=λi=>decide ((((B3 e)[i]?).getD e).targs.length=0)) (jump:=.ret) (ks:=[2000002]) (slR:=[(2,.box 2000002 0)]) (mb:=λ_=>[(2000002,.cells [.d (.bool false)])]) (st:=Jq (λx=>decide (x.targs.length=0)) 0 (B3 e)) ⟨⟨_,rfl⟩,by decide,by decide,rfl,λ_=>rfl,by decide,λ_=>rfl,?_⟩ (λ_=>by simp) rfl rfl ?_ ⟨.inr (.inl rfl),trivial⟩ ⟨rfl,trivial⟩ ?_ ?_)
 .intro j I a0 l;have J:=Bu I;generalize(B3 e)[j]=x at J;simp only[J,Dx];(refine lV TG λK z=>?_;apply z;try simp only[Aa,]);refine⟨rfl,?_⟩;refine bA ?_;by_cases V:x.targs.length=0
  .have L:¬(x.targs.length:Int) > 0:=by omega
   refine Ak L TG ?_;refine dA rfl (cA ⟨?_,⟨rfl,trivial⟩⟩);simp only[J,Dx];exact Bn V
  .have L:(x.targs.length:Int) > 0:=by omega
   refine Ak L TG ?_;refine eA rfl<|sR TG ?_;refine A0.ret ⟨?_,rfl,⟨rfl,trivial⟩⟩;simp only[J,Dx];exact Cb V
 intro Y Z W U L;refine DZ _ e Y ⟨Z,by rw[W];omega,λi x J=>?_⟩;rw[U,L];simp[J]
 .intro j I _;have E:J9 (λx=>decide (x.targs.length=0)) (B3 e)=true:=by
   unfold Jq at I;cases h:J9 (λx=>decide (x.targs.length=0)) (B3 e)with
   |true=>rfl
   |false=>rw[h]at I;simp at I
  simp only[Aa,Af];refine u1 _ _ (wk [(2,.box 2 0)] [(2,.cells [.d (.bool false)])] ?_);refine sR TG ?_;rw[E];exact aR
 .intro I;have E:J9 (λx=>decide (x.targs.length=0)) (B3 e)=false:=by
   unfold Jq at I;cases h:J9 (λx=>decide (x.targs.length=0)) (B3 e)with
   |true=>rw[h]at I;simp at I
   |false=>rfl
  rw[E];exact⟨_,by rw[results67];rfl,rfl⟩
abbrev pl1:D:=.cl 66 []
abbrev pl2:D:=.cl 67 []
theorem nh(s:A4):I5 prog pl1 [Db s] (Ar (decide (s.A1.length=0))):=⟨_,[],_,_,rfl,trivial,rfl,H1q s⟩
theorem XY(e:Ex):I5 prog pl2 [D6 e] (Ar (Ku e)):=⟨_,[],_,_,rfl,trivial,rfl,G5y e⟩
abbrev Zu:=[0,1,2,3,4]
theorem H6x(d:Decl)(hd:d.sigs.length<=sm):Ab prog 70 [Hw d,.A8 [pl1] 0,.A8 [pl2] 0] (Ar (Qf d)):=by
 have L:=G0c 66 [] (λs=>decide (s.A1.length=0)) d.sigs hd λs _=>nh s;have J:=nh d.sig;have W:=XY d.body;rw[show(d.sigs.all λs=>decide (s.A1.length=0))=Rm d.sigs from rfl]at L;have e:Qf d=(decide (d.A1.length=0) && (decide (d.vars.length=0) && (Rm d.sigs && (decide (d.sig.A1.length=0) && Ku d.body)))):=by unfold Qf;rw[iC];simp only[Bh,Di];constructor;rintro⟨a,b,c⟩;exact⟨by omega,by omega,c,by omega,b⟩;rintro⟨a,b,c,f,g⟩;exact⟨by omega,g,c⟩
 rw[e];generalize Rm d.sigs=bs at*;generalize Ku d.body=be at*;by_cases U:d.A1.length=0;rotate_left
 .have E:¬(d.A1.length:Int)=0:=by omega
  rw[Cb U,C6];refine cB func70 ?_;refine sR Zu ?_;refine Ak E Zu ?_;exact aR
 have E:(d.A1.length:Int)=0:=by omega
 have d1:decide ((d.A1.length:Int)=0)=true:=Bn E;rw[Bn U,Ch];by_cases V:d.vars.length=0;rotate_left
 .have I:¬(d.vars.length:Int)=0:=by omega
  rw[Cb V,C6];refine cB func70 ?_;refine sR Zu ?_;refine Ee d1 I Zu ?_;exact aR
 have I:(d.vars.length:Int)=0:=by omega
 have d2:decide ((d.vars.length:Int)=0)=true:=Bn I;rw[Bn V,Ch];cases bs with
 |false =>refine cB func70 ?_;refine sR Zu ?_;refine sQ Zu λK z=>?_;refine G1 d1 d2 ?_;refine cc L ?_;apply z;exact aR
 |true =>
  rw[Ch];by_cases O:d.sig.A1.length=0
  .rw[Bn O]at J |-;rw[Ch];refine cB func70 ?_;refine sR Zu ?_
   refine sQ Zu λK z=>?_;refine G1 d1 d2 ?_;refine cc L ?_;refine⟨_,Ly rfl J rfl,?_⟩;(try refine ev ?_);refine⟨_,Ly rfl W rfl,?_⟩;(try refine ev ?_);apply z;exact aR
  .rw[Cb O]at J |-;rw[C6];refine cB func70 ?_;refine sR Zu ?_
   refine sQ Zu λK z=>?_;refine G1 d1 d2 ?_;refine cc L ?_;refine⟨_,Ly rfl J rfl,?_⟩;(try refine ev ?_);apply z;exact aR
abbrev Wo:=[0,1,2,4,5,6,8,9,10,11,17]
theorem H0h(p:Prog)(hp:p.Le)(W:∀t,t∈Lj p->t.Sm):Ab prog 25 [Cs p] (Ar (Pp p)):=by
 have h1:=wi p hp W;have h2:=XY p.main;have h3:=H2t 70 [.ptr [pl1],.ptr [pl2]] Qf p.decls (Cy hp.yC (by decide)) λd hd=>⟨_,[.A8 [pl1] 0,.A8 [pl2] 0],_,_,rfl,⟨⟨rfl,rfl⟩,⟨rfl,rfl⟩,trivial⟩,rfl,H6x d (Cy (hp.decls d hd).xC (by decide))⟩;have a1:=bP hp;have e:Pp p=(Ra (Lj p) && (Ku p.main && p.decls.all Qf)):=by unfold Pp;rw[Bool.and_comm (p.decls.all Qf)]
 rw[e];generalize Lj p=l at*;generalize p.decls.all Qf=b2 at*;generalize Ku p.main=b1 at*;have J:Co prog 121=some [.d .G3]:=by kernel_rfl
 have V:Co prog 86=some [.d .G3]:=by kernel_rfl
 have O:Bp prog 121=some 1:=by kernel_rfl
 have Z:Bp prog 86=some 1:=by kernel_rfl
 have I:D2 prog 86=some false:=by kernel_rfl
 refine cB func25 ?_;refine sR Wo ?_;refine kC h1 Wo λK1 u1=>?_;refine bA (A0.ii l (X:=Unit) (λj _=>[(1,.box 1 0),(8,.d (.slice (Au l))),(9,A6 l.length),(10,A6 j)]) (λ_ _=>[(1,.cells ((Ah p).map .d))]) (λj _=>Ra l=Ra (l.drop j)) () rfl sS (by simp[ble,A9,Ah]) ?_ ?_)
 rotate_left
 .intro j _ u hu a0 dp tk L E;rw[dp,show Ra (u::l.drop (j+1))=(decide (u.args.length=0) && Ra (l.drop (j+1))) from rfl]at E;refine Ak L Wo ?_;refine kA rfl<|sK λK2 u2=>bA<|sI (Fs hu) [0,1,2,4,5,6,8,9,10,11,17] ?_;by_cases hz:u.args.length=0
  .have U:¬(u.args.length:Int) > 0:=by omega
   rw[Bn hz,Ch]at E;refine Ak U Wo ?_;refine dA rfl (cA (u2 _ _ ?_))
   (refine lV Wo λK z=>?_;refine cl ?_;apply z;try simp only[Aa,])
   exact⟨(),E,sS,by simp[ble,A9,Ah]⟩
  .have U:(u.args.length:Int) > 0:=by omega
   rw[Cb hz,C6]at E;rw[show Ra l=false from E,C6];refine Ak U Wo ?_;refine eA rfl<|sR Wo ?_;exact aR
 intro _ E;rw[Dk]at E;rw[show Ra l=true from E,Ch]at u1 |-;refine Ak B1 Wo ?_;refine A0.stop rfl ?_;simp only[Aa,Af,Av];apply u1;refine Ee J O Wo ?_;refine Ee V Z Wo ?_;refine PA 5 rfl rfl<|PA 6 rfl rfl<|wk [(1,.box 1 0),(5,.A8 [pl1] 0),(6,.A8 [pl2] 0)] [(1,.cells ((Ah p).map .d))] ?_;cases b1 with
 |false =>refine sQ Wo λK z=>?_;refine Bb I ?_;refine⟨_,Ly rfl h2 rfl,?_⟩;(try refine ev ?_);apply z;exact aR
 |true =>rw[Ch];refine jA Wo [800026] (by decide +kernel) λK z=>?_;refine Bb I ?_;refine⟨_,Ly rfl h2 rfl,?_⟩;(try refine ev ?_);refine⟨_,Jp (xs:=[.A8 [pl1] 0,.A8 [pl2] 0]) (ys:=[.ptr [pl1],.ptr [pl2]]) ⟨⟨rfl,rfl⟩,⟨rfl,rfl⟩,trivial⟩ rfl,?_⟩;(try refine ev ?_);refine cc h3 ?_;apply z;exact aR
theorem SX(p:Prog)(hp:p.Le)(E:p.Sm):Ab prog 25 [Cs p] (Ar (Pp p)):=H0h p hp (tW E)
theorem TT(s:A3):Ab prog 33 [Bo s] (Ba (.mk s [] 0)):=by refine cB func33 ?_;refine sR [0,2] ?_;refine sR [0,2] ?_;exact aR
def HT(p:Prog)(s:A3):List A3:=(C3 p [] (.mk s [] 0)).map (·.name)
theorem bT{s:A3}(hs:s.length<=60000000*sm):(Ty.mk s [] 0).Sm:=.mk _ _ _ hs (by simp) (by simp)
abbrev lF:=[0,1,2,4,5,7,12,13,14,15]
theorem H6w(p:Prog)(h:p.Sm)(s:A3)(hs:s.length<=sm):Ab prog 12 [Cs p,Bo s] (Cm (HT p s)):=by
 have V:=zM p h;have L:=TT s;have U:=cQ p h [] (by simp) (by simp) (.mk s [] 0) (bT (Cy hs (by decide)));have Z:=W0 h [] (.mk s [] 0);unfold HT;generalize C3 p [] (.mk s [] 0)=l at*;refine cB func12 ?_;refine sR lF ?_;refine sR lF ?_;refine A0.pp 5 1 5 rfl<|sK λJ u1=>?_
 refine sV lF λK z=>?_;refine cc V ?_;refine cc L ?_;refine cc U ?_;apply z;refine bA (A0.ii l (X:=Unit) (λj _=>[(5,.acc 5),(12,.d (.slice (B4 l))),(13,A6 l.length),(14,A6 j)]) (λj _=>[(5,.rows 1 (Bq ((l.take j).map (·.name))))]) (λ_ _=>True) () trivial sS (by simp[ble,A9,Bq]) ?_ ?_);rotate_left
 .intro j _ u W I dp tk E _;rw[tk];refine Ak E lF ?_;refine kA rfl<|sK λO u2=>bA<|sI (Dg W) [0,1,2,4,5,7,12,13,14,15] ?_
  (refine lV lF λK z=>?_;refine⟨by simp,by(try simp only[B7,Dh]);unfold lim sm at*;omega,?_⟩;(try refine ev ?_);apply z;try simp only[Aa,Af]);apply u2;refine lT lF ?_;exact⟨(),trivial,sS,by simp[ble,A9,Bq]⟩
 intro _ _;rw[Ca];refine Ak B1 lF ?_;refine A0.stop rfl ?_;simp only[Aa,Af,Av];apply u1;refine sR lF ?_;exact aR
theorem Oi(p:Prog)(h:p.Sm)(a b:A3)(I:a.length<=60000000*sm)(O:b.length<=60000000*sm):Ab prog 13 [Cs p,Bo a,Bo b] (Ar (Cr p [] (.mk a [] 0) (.mk b [] 0))):=by have U:=zM p h;have J:=TT a;have L:=TT b;have E:=ic p h [] (by simp) (by simp) _ _ (bT I) (bT O);generalize Cr p [] (.mk a [] 0) (.mk b [] 0)=z at*;refine cB func13 ?_;refine sR [0,1,2,3,6] ?_;refine sV [0,1,2,3,6] λK z=>?_;refine cc U ?_;refine cc J ?_;refine cc L ?_;refine cc E ?_;apply z;exact aR
structure Sg(Y:Hq)(j:Nat)(l:List A3):Prop where
 P:Y.P=prog
 N:j+l.length<=Y.N
 at_:∀i s,l[i]?=some s->Y.xs (j+i)=Bo s/\Y.go (j+i)=true
theorem Sg.left{Y:Hq}{j:Nat}{l m:List A3}(h:Sg Y j (l++m)):Sg Y j l where
 P:=h.P
 N:=by have:=h.N;rw[B5]at this;omega
 at_:=λi e E=>h.at_ i e (by rw[Mm (Az.1 E).1];exact E)
theorem Sg.right{Y:Hq}{j:Nat}{l m:List A3}(h:Sg Y j (l++m)):Sg Y (j+l.length) m where
 P:=h.P
 N:=by have:=h.N;rw[B5]at this;omega
 at_:=λi e E=>by have:=h.at_ (l.length+i) e (by rw[Lq (by omega)];simpa using E);rw[Uf];exact this
abbrev QE:=[0,1,4,5,7,8,9,16,1000000]
theorem H1g(f:FuncId)(caps:List SV)(O:∀x:Ty,Gz [] (Ba x::caps)=some (Ba x::caps))(Y:Hq)(l:List Ty)(hl:l.length<=lim)(I:Nat)(E:Sg Y I (Ty.Eg l))
  (Z:∀e,e∈l->∀j,Sg Y j e.names->Ci prog f (Ba e::caps) [(1000000,.ghost Y (some j))] (Ar false) [(1000000,.ghost Y (some (j+e.names.length)))]) :
  Ci prog 269 [.d (.slice (Au l)),.Bi f caps] [(1000000,.ghost Y (some I))] (A6 (-1)) [(1000000,.ghost Y (some (I+(Ty.Eg l).length)))]:=by
 refine bB func269 ?_;refine sR QE ?_;refine kR QE λK1 u1=>?_;refine bA (A0.ii l (X:=Unit) (λj _=>[(0,.d (.slice (Au l))),(1,.Bi f caps),(7,A6 l.length),(8,A6 j)]) (λj _=>[(1000000,.ghost Y (some (I+(Ty.Eg (l.take j)).length)))]) (λ_ _=>True) () trivial sS (by simp[ble,A9,Ty.Eg]) ?_ ?_);intro _ _;rw[Ca];refine Ak B1 QE ?_;refine A0.stop rfl ?_;simp only[Aa,Af,Av];refine u1 _ _<|sR QE ?_;exact A0.ret ⟨_,by rw[results269];rfl,.inr rfl,by simp[ble,A9]⟩
 .intro j _ d hd J dp tk V _;have W:Sg Y (I+(Ty.Eg (l.take j)).length) d.names:=by
   have U:l=l.take j++(d::l.drop (j+1)):=by rw[<-dp,Ue]
   rw[U,UA,Ty.Eg]at E;exact E.right.left
  have L:=Z d J _ W;refine Ak V QE ?_;refine kA rfl<|sK λK2 u2=>bA<|sR QE ?_
  refine jA QE [700016] (by decide +kernel) λK z=>?_;refine ev ?_;refine ci (Fs hd) ?_;refine⟨_,_,_,O d,L,rfl,?_⟩;(try refine ev ?_);apply z;refine dA rfl (cA (u2 _ _ ?_));(refine lV QE λK z=>?_;refine⟨by first| (unfold B6;omega)| (simp only[B6,lim]at*;omega),?_⟩;(try refine ev ?_);apply z;try simp only[Aa,]);refine⟨(),trivial,sS,?_⟩;rw[tk,UA,show Ty.Eg [d]=d.names by simp[Ty.Eg],B5,<-Uf];simp[ble,A9]
theorem F5u(f:FuncId)(caps:List SV)(L:Gz [] caps=some caps)(J:∀x:Ty,Gz [] (Ba x::caps)=some (Ba x::caps))(Y:Hq)(l:List Ty)(O:l.length<=lim)(I:Nat)(E:Sg Y I (Ty.Eg l))
  (U:∀e,e∈l->∀j,Sg Y j e.names->Ci prog f (Ba e::caps) [(1000000,.ghost Y (some j))] (Ar false) [(1000000,.ghost Y (some (j+e.names.length)))]) :
  Ci prog 177 [.d (.slice (Au l)),.Bi f caps] [(1000000,.ghost Y (some I))] (Ar false) [(1000000,.ghost Y (some (I+(Ty.Eg l).length)))]:=by have h:=H1g f caps J Y l O I E U;refine bB func177 ?_;refine sR [0,1,4,1000000] ?_;refine jA [0,1,4,1000000] [700007] (by decide +kernel) λK z=>?_;refine ev ?_;refine⟨_,_,_,(by rw[L]),h,rfl,?_⟩;(try refine ev ?_);apply z;exact A0.ret ⟨_,by rw[results177];rfl,.inr rfl,by simp[ble,A9]⟩
abbrev rQ:=[0,1,2,3,4,5,10,1000000]
theorem F8p(Y:Hq):∀(e:Ty)(j:Nat),Sg Y j e.names->Ci prog 96 [Ba e,.Fg Y.l] [(1000000,.ghost Y (some j))] (Ar true) [(1000000,.ghost Y (some (j+e.names.length)))]:=by
 intro e
 induction e using Ty.induct with
 |h e ih =>
 intro j E;refine Ci.bd (Enters.of func96 rfl (by decide)) λU=>?_;have a0:=(BQ U.1).len;have hP:=E.P;have V:=E.at_ 0 e.name (by rw[OA];rfl);have hN:j<Y.N:=by have:=E.N;rw[OA,Bg]at this;omega
 rw[Nd]at V;have O:∀k,k∈e.args->∀i,Sg Y i k.names->Ci prog 176 [Ba k,.Fy [.Fg Y.l] 0] [(1000000,.ghost Y (some i))] (Ar false) [(1000000,.ghost Y (some (i+k.names.length)))]:=by intro k hk i hi;have:=ih k hk i hi;refine bB func176 ?_;refine sR [0,1,2,3,1000000] ?_;refine jA [0,1,2,3,1000000] [700006] (by decide +kernel) λK z=>?_;refine ev ?_;refine⟨_,_,_,rfl,this,rfl,?_⟩;(try refine ev ?_);apply z;exact A0.ret ⟨_,by rw[results176];rfl,.inr rfl,by simp[ble,A9]⟩
 have W:Sg Y (j+1) (Ty.Eg e.args):=by have:=E;rw[OA,show e.name::Ty.Eg e.args=[e.name]++Ty.Eg e.args from rfl]at this;exact this.right
 have Z:=F5u 176 [.Fy [.Fg Y.l] 0] rfl (λ_=>rfl) Y e.args a0 (j+1) W O;have J:j+e.names.length=j+1+(Ty.Eg e.args).length:=by rw[OA,Bg];omega
 rw[J];have I:Y.go j=true:=V.2;have L:Y.next j=some (j+1):=by unfold Hq.next;rw[A7 I]
 generalize j+1+(Ty.Eg e.args).length=st at*;refine bB func96 ?_;refine sR rQ<|sK λK1 u1=>?_
 (refine jA rQ [700009] (by decide +kernel) λK z=>?_;refine G1 I L ?_;refine⟨_,rfl,hP,hN,V.1,?_⟩;(try refine G1 I L ?_);apply z)
 refine kI u1 ?_;refine SB 3 rfl rfl (wk [(2,.box 2 0),(3,.Fy [.Fg Y.l] 0),(4,.d (.bool false))] [(2,.cells (Pt e)),(1000000,.ghost Y (some (j+1)))] ?_);refine sR rQ ?_
 (refine jA rQ [700015] (by decide +kernel) λK z=>?_;refine ev ?_;refine⟨_,_,_,rfl,Z,rfl,?_⟩;(try refine ev ?_);apply z)
 exact A0.ret ⟨_,by rw[results96];rfl,.inr rfl,by simp[ble,A9]⟩
theorem G7i(e:Ty):Ci prog 36 [Ba e] [] (.Bi 95 [.A8 (Bf e) 0]) []:=by refine bB func36 ?_;refine sR [0,1,2] ?_;refine gA 1 rfl rfl<|sR [0,1,2] ?_;exact A0.ret ⟨_,by rw[results36];rfl,.inr rfl,by simp[ble]⟩
theorem G5h(e:Ty)(Y:Hq)(I:Sg Y 0 e.names):Ci prog 95 [.Fg Y.l,.A8 (Bf e) 0] [(1000000,.ghost Y (some 0))] (.tuple []) [(1000000,.ghost Y (some e.names.length))]:=by have E:=F8p Y e 0 I;rw[Kf]at E;refine bB func95 ?_;(refine xA [0,1,1000000] [700005] (by decide +kernel) λK z=>?_;refine ev ?_;refine⟨_,_,_,rfl,E,rfl,?_⟩;(try refine ev ?_);apply z;try simp only[Aa,Af,Av]);exact⟨_,by rw[results95];rfl,.inr rfl,by simp[ble,A9]⟩
def Sq(l:List Decl):List A3:=l.foldl (λm d=>Tk m d.name) []
theorem G8h(l:List Decl)(d:Decl):Sq (l++[d])=Tk (Sq l) d.name:=by simp[Sq]
theorem G8w(l:List Decl)(s:A3):∀m:List A3,s∈l.foldl (λm d=>Tk m d.name) m↔s∈m\/∃y,y∈l/\y.name=s:=by
 induction l with
 |nil=>simp
 |cons a l I =>intro m;rw[Mt,I,K0];simp only[Ay];constructor;rintro((rfl|h)|⟨y,h1,E⟩);exact .inr ⟨a,.inl rfl,rfl⟩;exact .inl h;exact .inr ⟨y,.inr h1,E⟩;rintro(h|⟨y,rfl|h1,E⟩);exact .inl (.inr h);exact .inl (.inl E.symm);exact .inr ⟨y,h1,E⟩
theorem FR(l:List Decl)(s:A3):s∈Sq l↔∃y,y∈l/\y.name=s:=by unfold Sq;rw[G8w];simp
theorem G8t{m:List A3}(h:m.Nodup)(s:A3):(Tk m s).Nodup:=by unfold Tk;split;exact h;rename_i hs;rw[CJ];exact⟨h,by simp,λa I b E=>by simp at E;subst E;exact λJ=>hs (J ▸ I)⟩
theorem uv(l:List Decl):∀m:List A3,m.Nodup->(l.foldl (λm d=>Tk m d.name) m).Nodup:=by
 induction l with
 |nil=>intro m h;exact h
 |cons a l E=>intro m h;exact E _ (G8t h _)
def Jo(l ds:List A3):List A3:=ds.foldl List.erase l
theorem la(l a b:List A3):Jo l (a++b)=Jo (Jo l a) b:=by simp[Jo]
theorem zb:∀(ds:List A3) {l:List A3} {s:A3},l.Nodup->(s∈Jo l ds↔s∈l/\s∉ds)
 |[],l,s,h=>by simp[Jo]
 |d::ds,l,s,h=>by rw[show Jo l (d::ds)=Jo (l.erase d) ds from rfl,zb ds (h.erase d),h.mem_erase_iff];simp only[Ay,Yo];constructor;rintro⟨⟨a,b⟩,c⟩;exact⟨b,a,c⟩;rintro⟨b,a,c⟩;exact⟨⟨a,b⟩,c⟩
theorem y7:∀(ds:List A3) {l:List A3} {s:A3},s∈Jo l ds->s∈l
 |[],l,s,h=>h
 |d::ds,l,s,h=>List.mem_of_mem_erase (y7 ds h)
theorem OZ(s:A3)(l:List A3):aL (.str s) (H4 l)=H4 (l.erase s):=by
 unfold aL;have key:∀(l:List A3) (i:Nat),(s∉l->Fh (D.str s).lits (H4 l) i=none)/\(s∈l->∃j v,Fh (D.str s).lits (H4 l) i=some (i+j,v)/\(H4 l).eraseIdx j=H4 (l.erase s)):=by
  intro l
  induction l with
  |nil=>intro i;simp[H4,Fh]
  |cons x l O =>
   intro i;have V:H4 (x::l)=(.str x,.bool true)::H4 l:=rfl;rw[V];simp only[Fh];by_cases E:s=x;subst E;refine⟨λh=>absurd (GG ..) h,λ_=>⟨0,_,by rw[A7 rfl];rfl,by simp[List.erase_cons_head]⟩⟩
   .have J:¬(D.str s).lits=(D.str x).lits:=by simp[D.lits,D.lit,E]
    rw[A5 J];obtain⟨Z,W⟩:=O (i+1);refine⟨λh=>Z λU=>h (by simp[U]),λh=>?_⟩;obtain⟨j,v,L,I⟩:=W ((Ay.1 h).resolve_left E);refine⟨j+1,v,by rw[L];congr 2;omega,?_⟩;rw[List.eraseIdx_cons_succ,I,List.erase_cons_tail (by simpa using Zy E)];rfl
 by_cases h:s∈l;obtain⟨j,v,L,I⟩:=(key l 0).2 h;rw[L];simp only[Kf];exact I;rw[(key l 0).1 h,List.erase_of_not_mem h]
def AD(l:List Decl):List A3:=l.flatMap λd=>if d.kind=3 then[d.name]else[]
def FU(p:Prog):List A3:=Ty.Eg (Lj p)++AD p.decls
def Yv(u:List A3)(l:List Decl):List A3:=l.flatMap λd=>if d.name∈u then[]else[d.name]
def SN(p:Prog):List A3:=Yv (FU p) p.decls
theorem F8b(u:List A3)(l:List Decl):(Yv u l).length<=l.length:=by
 have:=wI (λd:Decl=>if d.name∈u then[]else[d.name]) 1 l λx _=>by split <;> simp
 unfold Yv;omega
mutual
theorem Ty.Sm.names:∀{t:Ty},t.Sm->∀s,s∈t.names->s.length<=60000000*sm
 |.mk n a p,h,s,hs=>by rw[Ty.names,Ay]at hs;rcases hs with rfl|hs;exact h.name;exact Ty.Sm.Eg (λt ht=>h.arg t ht) s hs
theorem Ty.Sm.Eg:∀{l:List Ty},(∀t,t∈l->t.Sm)->∀s,s∈Ty.Eg l->s.length<=60000000*sm
 |[],_,s,hs=>by simp[Ty.Eg]at hs
 |t::l,h,s,hs=>by rw[Ty.Eg,Bj]at hs;rcases hs with hs|hs;exact Ty.Sm.names (h t (by simp)) s hs;exact Ty.Sm.Eg (λt ht=>h t (by simp[ht])) s hs
end
abbrev I4:=[0,1,2,3,5,7,8,10,11,13,14,16,17,18,19,27,28,29,30,34,35,40,41,42,43,48,54,55,56,57,63,2000001,2000003,2000014]
theorem H3j(p:Prog)(hp:p.Le)(h:p.Sm):Ab prog 14 [Cs p] (Cm (SN p)):=by
 have h1:=G4e p hp h;have ah:=bP hp;have ab:=tW h;have af:=hp.yC;have hU:∀u,u=FU p->Cm (Yv u p.decls)=Cm (SN p):=λu W=>by rw[W];rfl
 have a0:Ny prog 9=true:=by kernel_rfl
 have hT:=underlying80;have ad:∀j s,s∈Sq (p.decls.take j)->s.length<=60000000*sm:=λj s hs=>by obtain⟨y,hy,rfl⟩:=(FR _ _).1 hs;exact(h.decls.2 y (Kv hy)).name
 have aa:(Sq p.decls).Nodup:=uv _ _ (by simp);have a6:∀s,s∈Sq p.decls->s.length<=lim:=λs hs=>by obtain⟨y,hy,rfl⟩:=(FR _ _).1 hs;exact Cy (h.decls.2 y hy).name (by decide)
 have O:∀ds,∀kv,kv∈H4 (Jo (Sq p.decls) ds)->E1 prog 9 kv.1:=λds=>RT λs hs=>a6 s (y7 ds hs);have a3:∀(d:Decl),d∈p.decls->∀ds,(d.name∈Jo (Sq p.decls) ds↔d.name∉ds):=λd hd ds=>by rw[zb ds aa];exact⟨λh=>h.2,λh=>⟨(FR _ _).2 ⟨d,hd,rfl⟩,h⟩⟩
 unfold SN FU at*;generalize Lj p=tl at*;refine cB func14 ?_;refine sR I4 ?_;refine sR I4 ?_;refine kR I4 λK1 u1=>?_;refine bA (A0.ii p.decls (X:=Unit) (λj _=>[(1,.box 1 0),(3,.box 3 0),(16,.d (.slice (Bx p.decls))),(17,A6 p.decls.length),(18,A6 j)]) (λj _=>[(1,.cells ((Ah p).map .d)),(3,.cells [.mp 14]),(14,.map (H4 (Sq (p.decls.take j))))]) (λ_ _=>True) () trivial sS (by simp[ble,A9,Ah,Sq,H4]) ?_ ?_);rotate_left
 .intro j _ d hd E dp tk I _;have Z:E1 prog 9 (.str d.name):=II _ (Cy (h.decls.2 d E).name (by decide));have J:∀kv,kv∈H4 (Sq (p.decls.take j))->E1 prog 9 kv.1:=RT λs hs=>Cy (ad j s hs) (by decide);rw[tk,G8h];generalize Sq (p.decls.take j)=L at*;refine Ak I I4 ?_;refine kA rfl<|sK λV u2=>bA<|sI (E6 hd) [0,1,2,3,5,7,8,10,11,13,14,16,17,18,19,27,28,29,30,34,35,40,41,42,43,48,54,55,56,57,63,2000001,2000003,2000014] ?_
  (refine lQ I4 λK z=>?_;simp -implicitDefEqProofs only[EV,D8,Nat.reduceEqDiff,reduceCtorEq,jQ];refine⟨J,Z,?_⟩;(try simp -implicitDefEqProofs only[EV,D8,M6,Mp,Nat.reduceAdd,Nat.reduceEqDiff,Nat.reduceBEq,Nat.reduceLeDiff,Nat.reduceSub,Nat.reduceMul,Int.reduceEq,Int.reduceLT,Int.reduceLE,Int.reduceSub,Int.reduceAdd,Int.reduceToNat,reduceCtorEq,Int.reduceNeg,jQ]);apply z;try simp only[Aa,Af]);apply u2;(refine lV I4 λK z=>?_;refine cl ?_;apply z;try simp only[Aa,]);exact⟨(),trivial,sS,by simp[ble,A9,Ah]⟩
 intro _ _;rw[Ca];refine Ak B1 I4 ?_;refine A0.stop rfl ?_;simp only[Aa,Af,Av];apply u1;generalize Sq p.decls=L at*;refine kC h1 I4 λK1 u1=>?_;refine bA (A0.ii tl (X:=Unit) (λj _=>[(1,.box 1 0),(3,.box 3 0),(27,.d (.slice (Au tl))),(28,A6 tl.length),(29,A6 j)]) (λj _=>[(1,.cells ((Ah p).map .d)),(3,.cells [.mp 14]),(14,.map (H4 (Jo L (Ty.Eg (tl.take j)))))]) (λ_ _=>True) () trivial sS (by simp[ble,A9,Ah,Jo,Ty.Eg]) ?_ ?_);rotate_left
 .intro j _ t ht E dp tk I _;have hN:=G7i t;have a8:=ab t E;rw[tk,UA,show Ty.Eg [t]=t.names by simp[Ty.Eg]];have a1:∀i,∀kv,kv∈H4 (Jo L (Ty.Eg (tl.take j)++t.names.take i))->E1 prog 9 kv.1:=λi=>O _;generalize Ty.Eg (tl.take j)=A at*;refine Ak I I4 ?_;refine kA rfl<|sK λV u2=>bA<|sI (Fs ht) [0,1,2,3,5,7,8,10,11,13,14,16,17,18,19,27,28,29,30,34,35,40,41,42,43,48,54,55,56,57,63,2000001,2000003,2000014] ?_;refine sC hN I4 ?_;refine bA (A0.rangeFunc (caps:=[.A8 (Bf t) 0]) (caps':=[.A8 (Bf t) 0]) (f:=95) (r:=.tuple []) (N:=t.names.length) (xs:=λi=>Bo ((t.names[i]?).getD [])) (go:=λ_=>true) (jump:=.ret) (ks:=[2000001,2000003,2000014]) (slR:=[(1,.box 2000001 0),(3,.box 2000003 0),(27,.d (.slice (Au tl))),(28,A6 tl.length),(29,A6 j)]) (mb:=λst=>match st with|some i=>[(2000001,.cells ((Ah p).map .d)),(2000003,.cells [.mp 2000014]),(2000014,.map (H4 (Jo L (A++t.names.take i))))]|none=>[]) (st:=some t.names.length) ⟨⟨_,rfl⟩,by decide,by decide,rfl,λst=>by cases st <;> rfl,by decide,λ_=>rfl,?_⟩ (λst=>by cases st <;> simp) rfl rfl ?_ ⟨.inr (.inl rfl),.inr (.inl rfl),.inr (.inl rfl),.inr (.inl rfl),.inr (.inl rfl),trivial⟩ ⟨rfl,rfl,by rw[lR,Fv];rfl,trivial⟩ ?_ ?_)
  .intro i hi ag l;have hx:=Bu hi;have a7:t.names.take (i+1)=t.names.take i++[t.names[i]]:=by rw[Kj hi]
   have a':=a8.names t.names[i] (Gc hi);have J:=a1 i;have a9:Jo L (A++t.names.take (i+1))=(Jo L (A++t.names.take i)).erase t.names[i]:=by rw[a7,<-H3,la _ (A++t.names.take i)];rfl
   generalize t.names[i]=s at*;have Z:E1 prog 9 (.str s):=II _ (Cy a' (by decide));simp only[hx,Dx,];generalize Jo L (A++t.names.take i)=M at*;(refine lV I4 λK z=>?_;apply z;try simp only[Aa,]);refine⟨rfl,?_⟩;refine bA ?_;(refine lV I4 λK z=>?_;refine⟨_,_,_,kZ (k:=2000014) rfl (Ho rfl) hT a0 rfl Z J,?_⟩;(try simp -implicitDefEqProofs only[EV,Nat.reduceEqDiff,reduceCtorEq,OZ]);apply z;try simp only[Af]);exact⟨rfl,rfl,rfl,by rw[a9];rfl,trivial⟩
  intro Y hP hN a5 hg;refine G5h t Y ⟨hP,by rw[hN];omega,λi x hx=>?_⟩;rw[a5,hg];simp[hx];intro i hi _;obtain rfl:=Tf hi;simp only[Aa,Af];apply u2;refine A0.ww (sl':=[(1,.box 1 0),(3,.box 3 0),(27,.d (.slice (Au tl))),(28,A6 tl.length),(29,A6 j)]) (bx':=[(1,.cells ((Ah p).map .d)),(3,.cells [.mp 14]),(14,.map (H4 (Jo L (A++t.names))))]) ⟨.inr (.inl rfl),.inr (.inl rfl),.inr (.inl rfl),.inr (.inl rfl),.inr (.inl rfl),trivial⟩ ⟨rfl,rfl,by rw[Ca];rfl,trivial⟩ ?_;(refine lV I4 λK z=>?_;refine cl ?_;apply z;try simp only[Aa,]);exact⟨(),trivial,sS,by simp[ble,A9,Ah]⟩;intro hi;cases hi
 intro _ _;rw[Ca];refine Ak B1 I4 ?_;refine A0.stop rfl ?_;simp only[Aa,Af,Av];apply u1;generalize Ty.Eg tl=A at*;refine kR I4 λK1 u1=>?_;refine bA (A0.ii p.decls (X:=Unit) (λj _=>[(1,.box 1 0),(3,.box 3 0),(40,.d (.slice (Bx p.decls))),(41,A6 p.decls.length),(42,A6 j)]) (λj _=>[(1,.cells ((Ah p).map .d)),(3,.cells [.mp 14]),(14,.map (H4 (Jo L (A++AD (p.decls.take j)))))]) (λ_ _=>True) () trivial sS (by simp[ble,A9,Ah,AD]) ?_ ?_);rotate_left
 .intro j _ d hd E dp tk I _;have Z:E1 prog 9 (.str d.name):=II _ (Cy (h.decls.2 d E).name (by decide));have J:=O (A++AD (p.decls.take j));rw[tk,show AD (p.decls.take j++[d])=AD (p.decls.take j)++(if d.kind=3 then[d.name]else[]) by simp[AD],<-H3,la _ (A++_)];generalize Jo L (A++AD (p.decls.take j))=M at*;refine Ak I I4 ?_;refine kA rfl<|sK λV u2=>bA<|sI (E6 hd) [0,1,2,3,5,7,8,10,11,13,14,16,17,18,19,27,28,29,30,34,35,40,41,42,43,48,54,55,56,57,63,2000001,2000003,2000014] ?_;by_cases k3:d.kind=3
  have d3:=Bn k3;rw[A7 k3,show Jo M [d.name]=M.erase d.name from rfl];refine Ak d3 I4 ?_;refine eA rfl ?_;(refine lV I4 λK z=>?_;refine⟨_,_,_,kZ (k:=14) rfl (Ho rfl) hT a0 rfl Z J,?_⟩;(try simp -implicitDefEqProofs only[EV,Nat.reduceEqDiff,reduceCtorEq,OZ]);apply z;try simp only[Aa,Af]);apply u2;(refine lV I4 λK z=>?_;refine cl ?_;apply z;try simp only[Aa,]);exact⟨(),trivial,sS,by simp[k3,Jo,ble,A9,Ah]⟩;rw[A5 k3,show Jo M []=M from rfl];refine Ak k3 I4 ?_;refine dA rfl (cA (u2 _ _ ?_));(refine lV I4 λK z=>?_;refine cl ?_;apply z;try simp only[Aa,]);exact⟨(),trivial,sS,by simp[k3,Jo,ble,A9,Ah]⟩
 intro _ _;rw[Ca];refine Ak B1 I4 ?_;refine A0.stop rfl ?_;simp only[Aa,Af,Av];apply u1;generalize A++AD p.decls=U at*;have J:=O U;have a2:=λd hd=>a3 d hd U;generalize Jo L U=M at*;refine sR I4 ?_;refine A0.pp 11 1 11 rfl<|kR I4 λK1 u1=>?_;refine bA (A0.ii p.decls (X:=Unit) (λj _=>[(1,.box 1 0),(3,.box 3 0),(11,.acc 11),(54,.d (.slice (Bx p.decls))),(55,A6 p.decls.length),(56,A6 j)]) (λj _=>[(1,.cells ((Ah p).map .d)),(3,.cells [.mp 14]),(14,.map (H4 M)),(11,.rows 1 (Bq (Yv U (p.decls.take j))))]) (λ_ _=>True) () trivial sS (by simp[ble,A9,Ah,Yv,Bq]) ?_ ?_)
 rotate_left
 .intro j _ d hd E dp tk I _;have Z:E1 prog 9 (.str d.name):=II _ (Cy (h.decls.2 d E).name (by decide));have a4:=a2 d E;have ac:=F8b U (p.decls.take j);rw[tk,show Yv U (p.decls.take j++[d])=Yv U (p.decls.take j)++(if d.name∈U then[]else[d.name]) by simp[Yv]];have ae:(Yv U (p.decls.take j)).length<=200000:=by rw[Dh]at ac;omega
  generalize Yv U (p.decls.take j)=B at*;refine Ak I I4 ?_;refine kA rfl<|sK λV u2=>bA<|sI (E6 hd) [0,1,2,3,5,7,8,10,11,13,14,16,17,18,19,27,28,29,30,34,35,40,41,42,43,48,54,55,56,57,63,2000001,2000003,2000014] ?_
  refine sQ I4 λK z=>?_;simp -implicitDefEqProofs only[EV,D8,Nat.reduceEqDiff,reduceCtorEq,CP];refine⟨J,Z,?_⟩;(try simp -implicitDefEqProofs only[EV,D8,M6,Mp,Nat.reduceAdd,Nat.reduceEqDiff,Nat.reduceBEq,Nat.reduceLeDiff,Nat.reduceSub,Nat.reduceMul,Int.reduceEq,Int.reduceLT,Int.reduceLE,Int.reduceSub,Int.reduceAdd,Int.reduceToNat,reduceCtorEq,Int.reduceNeg,CP]);apply z;by_cases W:d.name∈U;rw[A7 W,Fv,Cb (λhm=>a4.1 hm W)];refine dA rfl (cA (u2 _ _ ?_));(refine lV I4 λK z=>?_;refine cl ?_;apply z;try simp only[Aa,]);exact⟨(),trivial,sS,by simp[W,ble,A9,Ah]⟩;rw[A5 W,Bn (a4.2 W)];refine eA rfl ?_;(refine lV I4 λK z=>?_;refine⟨by simp,by(try simp only[Bq,B7]);unfold lim;omega,?_⟩;(try refine ev ?_);apply z;try simp only[Aa,Af]);apply u2;(refine lV I4 λK z=>?_;refine cl ?_;apply z;try simp only[Aa,]);exact⟨(),trivial,sS,by simp[W,ble,A9,Ah,Bq]⟩
 intro _ _;rw[Ca];refine Ak B1 I4 ?_;refine A0.stop rfl ?_;simp only[Aa,Af,Av];apply u1;refine sR I4 ?_;exact aR
abbrev scV(c:Cd):SV:=.tuple [.d (.slice (Ai c.env)),.d (.slice (Aw c.vars))]
def HQ(p:Prog):Fw:=if Pp p=true then Yd p false else Lp 0
theorem H7e(p:Prog)(h:p.Fit)(hp:p.Le):Ab prog 9 [Cs p] (Kk (HQ p)):=by
 have E:=H3n p hp h.sm;have L:=Om p h false;unfold HQ;generalize Yd p false=o at*;cases J:Pp p with
 |true =>rw[J]at E;rw[A7 rfl];refine cB func9 ?_;refine sR [0,1,2,5] ?_;refine kC E [0,1,2,5] λI u1=>?_;refine kI u1 ?_;refine sC L [0,1,2,5] ?_;exact aR
 |false =>rw[J]at E;rw[A5 (by simp)];refine cB func9 ?_;refine sR [0,1,2,5] ?_;refine kC E [0,1,2,5] λI u1=>?_;refine tI ?_;refine sR [0,1,2,5] ?_;exact aR
abbrev SM:=[0,1,3,4,5,6,7,8,11]
theorem yz(n q:Int):Ab prog 10 [Cw (some n),Kk (Lp q)] (Ar (decide (n=q))):=by have E:=H2h 4 n;have I:=G4t 4 n;simp only[Cw,Hu]at E I |-;refine cB func10 ?_;refine sR SM ?_;refine kR SM λJ u1=>?_;refine kI u1 ?_;refine sC E SM ?_;refine sC I SM ?_;refine sR SM ?_;exact aR
def t24:Ty:=.mk [84] [] 0
def l24:Ex:=.mk 3 [] t24 [] [] 0
def Gw:Prog:=⟨[{ (default:Decl)with kind:=1,name:=[84] },{ (default:Decl)with kind:=2,name:=[73],sigs:=[⟨[109],[],[],t24,0⟩] }],.mk 5 [] t24 [] [l24] 0⟩
def MK:Prog:=⟨[{ (default:Decl)with kind:=1,name:=[84],A1:=[⟨[97],t24,0⟩] }],l24⟩
theorem nO:Gw.count<=600:=by decide +kernel
theorem iq:MK.count<=600:=by decide +kernel
theorem G0z:HT Gw [73]=[[109]]:=by decide +kernel
theorem G7w:Cr Gw [] (.mk [84] [] 0) (.mk [73] [] 0)=false:=by decide +kernel
theorem bz:Cr Gw [] (.mk [84] [] 0) (.mk [84] [] 0)=true:=by decide +kernel
theorem F6b:SN Gw=[[73]]:=by decide +kernel
theorem xg(t:Ty):Fk [] t<0:=by unfold Fk;split <;> simp[E3]
abbrev FN:=[0,1,2,6,8,9,10,11,12,13,21]
theorem zc(p:Prog)(env:List Aj):Ab prog 290 [.A8 (D4 p) 0,.d (.slice (Ai env)),Cv []] (.d .Hd):=by refine cB func290 ?_;refine sR FN ?_;refine kR FN λE u1=>?_;refine bA (A0.ii ([]:List Ty) (X:=Unit) (λj _=>[(0,.A8 (D4 p) 0),(1,.d (.slice (Ai env))),(10,Cv []),(11,A6 ([]:List Ty).length),(12,A6 j)]) (λ_ _=>[]) (λj _=>True) () trivial (by simp[sle,B0,Ae,D4,Ah]) sB ?_ λ_ _ _ hd=>by simp at hd);intro _ I;refine Ak B1 FN ?_;refine A0.stop rfl ?_;simp only[Aa,Af,Av];refine u1 _ _<|sR FN ?_;exact aR
abbrev tM:=[0,1,2,3,8,9,10,15,16,17,18,19,36]
theorem qa(p:Prog)(env:List Aj):Ab prog 291 [.A8 (D4 p) 0,.d (.slice (Ai env)),.d (.slice (Ai [])),Cv []] (A6 (-1)):=by refine cB func291 ?_;refine sR tM ?_;refine kR tM λE u1=>?_;refine kI u1 ?_;refine kR tM λE u1=>?_;refine bA (A0.ii ([]:List Aj) (X:=Unit) (λj _=>[(0,.A8 (D4 p) 0),(1,.d (.slice (Ai env))),(2,.d (.slice (Ai []))),(3,Cv []),(16,.d (.slice (Ai []))),(17,A6 ([]:List Aj).length),(18,A6 j)]) (λ_ _=>[]) (λj _=>True) () trivial (by simp[sle,B0,Ae,D4,Ah]) sB ?_ λ_ _ _ hd=>by simp at hd);intro _ I;refine Ak B1 tM ?_;refine A0.stop rfl ?_;simp only[Aa,Af,Av];refine u1 _ _<|sR tM ?_;exact aR
abbrev Yh:=[0,1,2,5,6,8,9,10,11,12,19,36,46,55]
theorem ES(p:Prog)(h:p.Sm)(x:Ty)(U:x.args=[])(hc:Br p [] x=none):Ab prog 277 [.A8 (D4 p) 0,.d (.slice (Ai [])),Ba x] (.d .Hd):=by
 have O:=zP [] x (by simp) (by simp);have I:=GU p h x.name;have L:=MN p h x.name;have J:=zc p [];have V:=qa p [];rcases zD.1 hc with Z|⟨k0,W,_⟩;simp[D3,Fk]at Z;rw[U,Ck,Wu]at W;rw[W]at I;obtain⟨n,a,q⟩:=x;simp only[Ty.args]at U;subst U;simp only[Ty.name]at I L k0;have O:Ab prog 78 [.d (.slice (Ai [])),Ba (.mk n [] q)] (qD none):=O;simp only[qD]at O;generalize kindOf p n=k at*;refine cB func277 ?_;refine sR Yh ?_;refine kC O Yh λE u1=>?_;refine sR Yh ?_;refine kI u1 ?_;refine sR Yh ?_;refine sC I Yh<|sK λE u1=>?_
 refine sV Yh λK z=>?_;refine E0 k0 L ?_;apply z;refine kI u1 ?_;refine kC J Yh λE u1=>?_;refine sR Yh ?_;refine kI u1 ?_;refine kC V Yh λE u1=>?_;refine sR Yh ?_;refine kI u1 ?_;refine sR Yh ?_;exact aR
abbrev UL:=[0,1,2,3,4,5,6,7,8,16,25]
theorem TW(c:Cd)(h:c.Sm)(e:Ex){t:Ty}(ht:t.Sm)(J:Ab prog 153 [Nk c,D6 e] (Sa (t,none)))(w:Ty)(L:w.Sm)(O:Cr c.p c.env t w=true):Ab prog 230 [Nk c,D6 e,Ba w] (.d .Hd):=by have E:=ic c.p h.p c.env h.el h.env t w ht L;rw[O]at E;simp only[Sa,Hu]at J;refine cB func230 ?_;refine sR UL ?_;refine sC J UL ?_;refine kR UL λI u1=>?_;refine kI u1 ?_;refine kC E UL λI u1=>?_;refine dA rfl (cA (u1 _ _ ?_));refine sR UL ?_;exact aR
abbrev GF:=[0,1,2,3,6,7,8,9,10,11,12,13,26]
theorem td(c:Cd)(l:List Ex)(W:l.length<=sm)(m:List Param)(hm:l.length<=m.length)
  (U:∀(i:Nat) (k:Ex) (f:Param),l[i]?=some k->m[i]?=some f->Ab prog 230 [Nk c,D6 k,Ba f.type] (.d .Hd)) :
  Ab prog 293 [Nk c,.d (.slice (Ed l)),.d (.slice (Aw m))] (.d .Hd):=by
 refine cB func293 ?_;refine sR GF ?_;refine kR GF λZ u1=>?_;refine bA (A0.ii l (X:=Unit) (λj _=>[(0,Nk c),(2,.d (.slice (Aw m))),(3,.box 3 0),(10,.d (.slice (Ed l))),(11,A6 l.length),(12,A6 j)]) (λ_ _=>[(3,.cells (Yt c))]) (λj _=>True) () trivial sS sB ?_ ?_);intro _ _;refine Ak B1 GF ?_;refine A0.stop rfl ?_;simp only[Aa,Af,Av];refine u1 _ _<|sR GF ?_;exact aR
 .intro j _ d hd J dp tk I _;have V:j<l.length:=by omega
  have E:=Bu (l:=m) (i:=j) (by omega);generalize m[j]=f at E;have L:=U j d f hd E;refine Ak I GF ?_;refine kA rfl<|sK λO u2=>bA<|sI (Ey hd) [0,1,2,3,6,7,8,9,10,11,12,13,26] ?_
  refine sG GF [] 7 [] λK z=>?_;refine ev ?_;refine ci (Dt E) ?_;refine cc L ?_;apply z;refine sR GF ?_;refine dA rfl (cA (u2 _ _ ?_));refine lT GF ?_;exact⟨(),trivial,sS,sB⟩
abbrev QI(f:FuncId)(c:Cd)(e:Ex)(t:Ty):Prop:=Ab prog f [Nk c,D6 e] (.tuple [Ba t,.d .Hd])
theorem uw(e:Ex)(f:Param):Ab prog 288 [Ma f,.A8 (Ce e) 0] (Ar (decide (f.name=e.name))):=by refine cB func288 ?_;refine sR [0,1,2,3] ?_;refine sR [0,1,2,3] ?_;exact aR
theorem H6n(c:Cd)(h:c.Sm)(e:Ex){j:Nat}{f:Param}(J:Gp c.vars e.name=j)(O:c.vars[j]?=some f):QI 231 c e f.type:=by
 have E:=YZ 288 [.A8 (Ce e) 0] (λx=>rfl) (λf=>decide (f.name=e.name)) c.vars h.vl (λf _=>uw e f);unfold Gp at J;rw[J]at E;have I:¬(j:Int)<0:=by omega
 refine cB func231 ?_;refine sR [0,1,2,3,4,5,6,12] ?_;refine gA 3 rfl rfl (wk [(2,.box 2 0),(3,.A8 (Ce e) 0),(4,.box 4 0)] [(2,.cells (Yt c)),(4,Pw)] ?_);refine sC E [0,1,2,3,4,5,6,12] ?_;refine Ag I [0,1,2,3,4,5,6,12] λL u1=>?_;refine kI u1 ?_;refine sI (Dt O) [0,1,2,3,4,5,6,12] ?_;exact aR
abbrev EK:=[0,1,2,3,4,5,6,7,8,17,36]
theorem fi(c:Cd)(h:c.Sm)(E:c.env=[])(e:Ex)(U:e.Sm)(Z:e.type.args=[])(W:Br c.p c.env e.type=none)(b1:Kt c e.type=true)(a0:(Bc c.p e.type).length=e.kids.length)
  (hF:∀(i:Nat) (k:Ex) (f:Param),e.kids[i]?=some k->(Bc c.p e.type)[i]?=some f->Ab prog 230 [Nk c,D6 k,Ba f.type] (.d .Hd)):QI 233 c e e.type:=by
 have J:=ES c.p h.p e.type Z (by rw[<-E];exact W);have L:=LZ c h e.type U.type;have I:=td c e.kids U.kids.1 (Bc c.p e.type) (by omega) hF;have V:((Bc c.p e.type).length:Int)=(e.kids.length:Int):=by omega
 rw[b1,show jK c e.type=Bc c.p e.type by unfold jK;rw[E,A7 (xg _)]]at L;rw[<-E]at J;refine cB func233 ?_;refine sR EK ?_;refine gA 3 rfl rfl (wk [(2,.box 2 0),(3,.A8 (Ce e) 0),(4,.box 4 0)] [(2,.cells (Yt c)),(4,Pw)] ?_);refine kC J EK λO u1=>?_;refine sR EK ?_;refine kI u1 ?_;refine sC L EK ?_;refine Ag V EK λO u1=>?_;refine kI u1 ?_;refine sG EK [] 7 [] λK z=>?_;refine ev ?_;refine cc I ?_;apply z;exact aR
abbrev ZI:=[0,1,2,3,4,5,6,7,8,10,21,34]
theorem G4w(c:Cd)(h:c.Sm)(O:c.env=[])(e:Ex){k:Ex}(Z:e.kids[0]?=some k){x:Ty}(hx:x.Sm)(U:Ab prog 153 [Nk c,D6 k] (Sa (x,none))){j:Nat}{f:Param}(V:Gp (Bc c.p x) e.name=j)(W:(Bc c.p x)[j]?=some f) :QI 234 c e f.type:=by
 have I:=LZ c h x hx;have E:=YZ 295 [.A8 (Ce e) 0] (λx=>rfl) (λf=>decide (f.name=e.name)) (Bc c.p x) (NJ h.p x) (λf _=>H7b e f);rw[show jK c x=Bc c.p x by unfold jK;rw[O,A7 (xg _)]]at I;unfold Gp at V;simp only[Sa,Hu]at U;have J:¬(j:Int)<0:=by omega
 rw[V]at E;generalize Bc c.p x=l at*;generalize Kt c x=b at*;refine cB func234 ?_;refine sR ZI ?_;refine gA 3 rfl rfl (wk [(2,.box 2 0),(3,.A8 (Ce e) 0),(4,.box 4 0)] [(2,.cells (Yt c)),(4,Pw)] ?_);refine sG ZI [6] 11 gh λK z=>?_;refine ev ?_;refine cj (Ey Z) ?_;refine cc U ?_;apply z;refine kR ZI λL u1=>?_;refine kI u1 ?_;refine sC I ZI ?_;refine sC E ZI ?_;refine Ag J ZI λL u1=>?_;refine kI u1 ?_;refine sI (Dt W) [0,1,2,3,4,5,6,7,8,10,21,34] ?_;exact aR
abbrev QG:=[0,1,2,3,4,5,6,7,18,27,39]
theorem y5(c:Cd)(h:c.Sm)(I:c.env=[])(e:Ex)(U:e.type.args=[])(O:Br c.p c.env e.type=none){k:Ex}(V:e.kids[0]?=some k){x:Ty}(L:Ab prog 153 [Nk c,D6 k] (Sa (x,none))):QI 235 c e e.type:=by have J:=ES c.p h.p e.type U (by rw[<-I];exact O);rw[<-I]at J;simp only[Sa,Hu]at L;refine cB func235 ?_;refine sR QG ?_;refine gA 3 rfl rfl (wk [(2,.box 2 0),(3,.A8 (Ce e) 0),(4,.box 4 0)] [(2,.cells (Yt c)),(4,Pw)] ?_);refine sG QG [6] 11 gh λK z=>?_;refine ev ?_;refine cj (Ey V) ?_;refine cc L ?_;apply z;refine kR QG λE u1=>?_;refine eA rfl ?_;(refine lV QG λK z=>?_;refine cc J ?_;apply z;try simp only[Aa,]);apply u1;refine kR QG λE u1=>?_;refine kI u1 ?_;refine kR QG λE u1=>?_;refine kI u1 ?_;refine sR QG ?_;exact aR
abbrev Wc:=[0,1,2,3,4,5,6,7,8,9,10,11,22,46,59,72,95]
theorem H6p(c:Cd)(h:c.Sm)(a':c.env=[])(e:Ex)(he:e.Sm)(V:e.targs=[]){k:Ex}(h0:e.kids[0]?=some k){x:Ty}(hx:x.Sm)(a1:Ab prog 153 [Nk c,D6 k] (Sa (x,none))){s:A4}(hs:Nh c e x=.inr s)
  (hF:∀(i:Nat) (k:Ex) (f:Param),e.kids.tail[i]?=some k->s.params[i]?=some f->Ab prog 230 [Nk c,D6 k,Ba f.type] (.d .Hd)):QI 232 c e s.result:=by
 obtain⟨s1,s2,s3,_,_,s6⟩:=Wa.1 hs;have a5:=qC h.p (env:=c.env) h.env hx;have a6:=a5 s (Mj.2 s1);have E:=F5a c.p h.p c.env h.el h.env x hx e.name;have I:s.A1=[]:=by rw[V]at s3;exact Wu.1 s3
 have a3:∃j:Nat,Fo (C3 c.p c.env x) e.name=j/\(C3 c.p c.env x)[j]?=some s:=by rcases My (λs:A4=>decide (s.name=e.name)) (C3 c.p c.env x)with⟨_,Z⟩|⟨j,y,h1,Z,h3⟩;have:=Z s (Mj.2 s1);simp[s2]at this;refine⟨j,h1,?_⟩;have:y=s:=Yu (vM c.p c.env x) (Bs Z) (Mj.2 s1) (by simp at h3;rw[h3,s2]);rw[<-this];exact Z
 obtain⟨j,h1,Z⟩:=a3;have a4:¬(j:Int)<0:=by omega
 unfold dJ at E;rw[h1,A5 a4,Ic,Z,Dx]at E;have a0:=zc c.p c.env;have W:=qa c.p c.env;have U:=G0b s a6 [] (by rw[I];rfl) (by simp);have a7:s.subst (s.A1.map (·.name)) []=s:=by
  rw[I];show s.subst [] []=s;obtain⟨n,fs,ps,r,q⟩:=s;simp only at I;subst I;simp only[A4.subst,G5,Rn]
  congr 1
  exact(Hb λf _=>by cases f;simp[Param.subst,Rn]).trans (List.map_id _)
 rw[a7]at U;have a8:=he.kids.1;have L:(e.kids.length:Int) - 1=(s.params.length:Int):=by omega
 have a9:(s.params.length:Int)+1<=sm:=by omega
 have O:=td c e.kids.tail (by rw[List.length_tail];omega) s.params (by rw[List.length_tail];omega) hF;have hex:Ed e.kids.tail=((Ed e.kids).take e.kids.length).drop 1:=by rw[UC (by rw[AN];exact Bv _),P8,P8,<-List.map_drop,List.drop_one]
 rw[hex]at O;have a2:(s.A1.length:Int)=(e.targs.length:Int):=by rw[I,V];rfl
 rw[<-V]at a0 W U;rw[<-I]at W;simp only[Sa,Hu]at a1;refine cB func232 ?_;refine sR Wc ?_;refine gA 3 rfl rfl (wk [(2,.box 2 0),(3,.A8 (Ce e) 0),(4,.box 4 0)] [(2,.cells (Yt c)),(4,Pw)] ?_);refine sG Wc [6] 11 gh λK z=>?_;refine ev ?_;refine cj (Ey h0) ?_;refine cc a1 ?_;apply z;refine kR Wc λJ u1=>?_;refine kI u1 ?_;refine sC E Wc ?_;refine Ag a2 Wc λJ u1=>?_;refine kI u1 ?_;refine kC a0 Wc λJ u1=>?_;refine sR Wc ?_;refine kI u1 ?_;refine kC W Wc λJ u1=>?_;refine sR Wc ?_;refine kI u1 ?_;refine sC U Wc<|sK λJ u1=>?_
 refine sQ Wc λK z=>?_;refine Bb L ?_;refine⟨by first| (unfold B6;omega)| (simp only[B6,sm]at*;omega),?_⟩;(try refine Bb L ?_);apply z;refine kI u1 ?_;refine sG Wc [] 9 [] λK z=>?_;refine ev ?_;refine⟨UU _,by omega,by omega,?_⟩;(try refine ev ?_);refine cc O ?_;apply z;exact aR
abbrev uC:=[0,1,2,3,4,5,6,7,8,9,45,60]
abbrev MC:Ji:=⟨[],[],[8],[8]⟩
theorem vH(c:Cd)(e:Ex)(he:e.Sm){t:Ty}(hS:t.Sm){j:Nat}{f:FuncId}(hj:e.kind=j)(a2:(j=1\/j=3)\/(j=2\/j=4\/j=5)/\e.kids.length≠0)(I:(UO c)[j]?=some (.d (dK c f)))(E:QI f c e t) :Ab prog 153 [Nk c,D6 e] (Sa (t,none)):=by
 have a1:j<6:=by omega
 have TA:prog.underlying 271=some (.array 6 208):=by kernel_rfl
 have TB:Bp prog 208=some 1:=by kernel_rfl
 have TD:D2 prog 207=some true:=by kernel_rfl
 have TE:Bp prog 207=some 4:=by kernel_rfl
 have TS:Bp prog 271=some 6:=by kernel_rfl
 have TZ:Co prog 271=some [.d .G3,.d .G3,.d .G3,.d .G3,.d .G3,.d .G3]:=by kernel_rfl
 have a0:∀(i:Nat) (q:Nat × Nat),[(0,1),(1,1),(2,1),(3,1),(4,1),(5,1)][i]?=some q->q=(i*1,1):=by
  intro i q U
  match i with
  |0|1|2|3|4|5=>simp at U;rw[<-U]
  |i+6=>simp at U
 have TC:D2 prog 208=some false:=by kernel_rfl
 have J:¬e.kind<1:=by omega
 have L:¬ 6<=e.kind:=by omega
 have Z:=IF t hS;have U:0+j*1=j:=by omega
 simp only[Sa,Hu];have W:(decide (e.kind=1)=true\/(decide (e.kind=1)=false/\decide (e.kind=3)=true))\/(decide (e.kind=1)=false/\decide (e.kind=3)=false)/\¬(e.kids.length:Int)=0:=by simp only[Di,lC];omega
 refine cB func153 ?_;refine sR uC ?_
 (refine gA 3 rfl rfl (wk [(2,.box 2 0),(3,.A8 (Ce e) 0),(4,.box 4 0)] [(2,.cells (Yt c)),(4,Pw)] ?_))
 refine A0.seq (A0.region [2,3,4,6] [2,4,6] (by decide +kernel) ?_)
 iterate 5
  refine⟨true,rfl,by simp[Sj],λ_=>⟨_,_,_,kr (k:=2) (off:=0) (n:=4) (cs:=Yt c) rfl rfl (by simp) TD TE (Bv 4) rfl,?_⟩,λh=>by cases h⟩;refine⟨true,rfl,by simp[Sj],λ_=>⟨_,_,_,G9z (rq c) rfl rfl,?_⟩,λh=>by cases h⟩
 refine⟨true,rfl,by simp[Sj],λ_=>⟨_,_,_,G1m (ps:=[(0,1),(1,1),(2,1),(3,1),(4,1),(5,1)]) (out:=UO c) rfl TA TB TZ a0 rfl rfl rfl,?_⟩,λh=>by cases h⟩;refine⟨true,rfl,by simp[Sj],λ_=>⟨_,_,_,qh (k:=6) (by decide) rfl TZ,?_⟩,λh=>by cases h⟩;refine⟨true,rfl,by simp[Sj],λ_=>⟨_,_,_,Ob (k:=6) (off:=0) (cs:=[.d .G3,.d .G3,.d .G3,.d .G3,.d .G3,.d .G3]) (us:=UO c) rfl rfl (List.Mem.head _) rfl TS (Bv 6),?_⟩,λh=>by cases h⟩;refine A0.ww (sl':=[(2,.box 2 0),(3,.A8 (Ce e) 0),(4,.box 4 0),(6,.box 6 0)]) (bx':=[(2,.cells (Yt c)),(4,Pw),(6,.cells (UO c))]) ⟨.inr (.inl rfl),.inr (.inl rfl),.inr (.inl rfl),.inr (.inl rfl),trivial⟩ ⟨rfl,rfl,rfl,trivial⟩ ?_
 rcases W with(V|⟨V,m3⟩)|⟨⟨V,m3⟩,hl⟩
 (refine sQ uC λK z=>?_;simp -implicitDefEqProofs only[EV,D8,Nat.reduceEqDiff,reduceCtorEq,V,M9];apply z)
 refine Dq J L uC λO u1=>?_;refine kI u1 ?_;rotate_left
 (refine sQ uC λK z=>?_;simp -implicitDefEqProofs only[EV,D8,Nat.reduceEqDiff,reduceCtorEq,V,m3,M9];apply z)
 refine Dq J L uC λO u1=>?_;refine kI u1 ?_;rotate_left
 (refine sQ uC λK z=>?_;simp -implicitDefEqProofs only[EV,D8,Nat.reduceEqDiff,reduceCtorEq,V,m3,M9];apply z)
 refine kR3 J L hl uC λO u1=>?_;refine kI u1 ?_;rotate_left
 all_goals
  (refine sG uC [8] 11 [MC,MC,MC,MC,MC,MC,MC,MC,MC,⟨[8],[8],[],[]⟩,⟨[8],[],[],[]⟩] λK z=>?_;refine ev ?_;refine⟨_,G7n (j:=j) rfl rfl hj TA TB a1 U,?_⟩;(try refine Bb I ?_);refine⟨_,ew (rq c) (args:=[.tmp 55]) rfl rfl E rfl,?_⟩;(try refine ev ?_);apply z)
  refine kR uC λO u1=>?_;refine kI u1 ?_;refine sC Z uC ?_;exact aR
def BG(e:Ex):Prop:=∀y,y∈B3 e->(y.kind=3\/y.kind=5->y.type.args=[])/\y.targs=[]
theorem BG.kid{e k:Ex}(h:BG e)(L:k∈e.kids):BG k:=λy E=>h y (by
 rw[L0,Ay];right;have:∀l:List Ex,k∈l->y∈Cx l:=λl=>by
  induction l with
  |nil=>simp
  |cons x l J=>rw[Cx,Bj];rintro(_|⟨_,I⟩);exact .inl E;exact .inr (J I)
 exact this _ L)
theorem QZ(c:Cd)(h:c.Sm)(O:c.env=[]):∀(e:Ex)(t:Ty),e.Sm->BG e->Dc c e=(t,none)->Ab prog 153 [Nk c,D6 e] (Sa (t,none)):=by
 intro e;induction e using Ex.induct with|_ e ih=>?_;intro t E ha ht;have W:=PO h e E;rw[ht]at W;obtain⟨a1,a2⟩:=ha e (by rw[L0];simp);have V:∀k,k∈e.kids->∀K,Dc c k=(K,none)->∀w:Ty,w.Sm->Cr c.p c.env K w=true->Ab prog 230 [Nk c,D6 k,Ba w] (.d .Hd):=λk I K U w hw hi=>by have a3:=PO h k (E.kids.2 k I);rw[U]at a3;exact TW c h k a3 (ih k I K (E.kids.2 k I) (ha.kid I) U) w hw hi
 rcases Jc.1 ht with⟨k1,k,f,h1,h2,rfl⟩|⟨k3,hc,a6,U,rfl⟩|⟨v,vs,x,I,hx,hh⟩;exact vH c e E W (j:=1) k1 (.inl (.inl rfl)) rfl (H6n c h e h1 h2);refine vH c e E W (j:=3) k3 (.inl (.inr rfl)) rfl (fi c h O e E (a1 (.inl k3)) hc a6 (by rw[<-U.1,B7]) λi k f g1 g2=>?_);obtain⟨K,q1,q2⟩:=U.2 i f.type k (by rw[Df,g2];rfl) g1;exact V k (Bs g1) K q1 _ (wH h.p E.type f (Bs g2)).type q2
 .have J:v∈e.kids:=by rw[I];simp
  have h0:e.kids[0]?=some v:=by rw[I];rfl
  have L:=PO h v (E.kids.2 v J);rw[hx]at L;have a0:=ih v J x (E.kids.2 v J) (ha.kid J) hx;have Z:e.kids.length≠0:=by rw[I];simp
  rcases hh with⟨k2,s,hs,U,rfl⟩|⟨k4,_,k,f,h1,h2,rfl⟩|⟨k5,hc,_,rfl⟩
  .obtain⟨s1,_,s3,_⟩:=Wa.1 hs;have a5:s.A1=[]:=by rw[a2]at s3;exact Wu.1 s3
   have a7:Tu s e.targs=s.params.map (·.type):=by unfold Tu;rw[a5,a2];exact Hb λf _=>Rn _
   have a4:s.result.subst (Ad s.A1) e.targs=s.result:=by rw[a5,a2];exact Rn _
   rw[a4]at W |-;rw[a7]at U;refine vH c e E W (j:=2) k2 (.inr ⟨.inl rfl,Z⟩) rfl (H6p c h O e E a2 h0 L a0 hs λi k f g1 g2=>?_);rw[I,List.tail_cons]at g1;obtain⟨K,q1,q2⟩:=U.2 i f.type k (by rw[Df,g2];rfl) g1;exact V k (by rw[I];exact rN _ (Bs g1)) K q1 _ ((DY h.p h.env L s s1).params.2 f (Bs g2)).type q2
  exact vH c e E W (j:=4) k4 (.inr ⟨.inr (.inl rfl),Z⟩) rfl (G4w c h O e h0 L a0 h1 h2);exact vH c e E W (j:=5) k5 (.inr ⟨.inr (.inr rfl),Z⟩) rfl (y5 c h O e (a1 (.inr k5)) hc h0 a0)
theorem H2z(c:Cd)(e:Ex){t:Ty}(E:Ab prog 153 [Nk c,D6 e] (Sa (t,none))) :Ab prog 74 [.A8 (D4 c.p) 0,Ar false,.d (.slice (Ai c.env)),.d (.slice (Aw c.vars)),D6 e] (.tuple [Ba t,.d .Hd]):=by simp only[Sa,Hu]at E;refine cB func74 ?_;refine sR [0,1,2,3,4,9,10,11] ?_;refine sC E [0,1,2,3,4,9,10,11] ?_;exact aR
theorem H2w(c:Cd)(h:c.Sm)(E:c.env=[])(e:Ex)(I:e.Sm)(O:BG e){t:Ty}(ht:Dc c e=(t,none))(w:Ty)(L:w.Sm)(U:Cr c.p c.env t w=true) :Ab prog 152 [.A8 (D4 c.p) 0,Ar false,.d (.slice (Ai c.env)),.d (.slice (Aw c.vars)),D6 e,Ba w] (.d .Hd):=by have J:=PO h e I;rw[ht]at J;have V:=TW c h e J (QZ c h E e t I O ht) w L U;refine cB func152 ?_;refine sR [0,1,2,3,4,5,10,11,12] ?_;refine sC V [0,1,2,3,4,5,10,11,12] ?_;exact aR
def NC(p:Prog)(t:Ty):Prop:=t.args=[]/\Br p [] t=none
theorem NC.ok{p:Prog}(h:p.Sm){t:Ty}(ht:NC p t):Ab prog 277 [.A8 (D4 p) 0,.d (.slice (Ai [])),Ba t] (Cw (Br p [] t)):=by rw[ht.2];exact ES p h t ht.1 ht.2
abbrev cI:=[0,1,2,3,5,8]
theorem H1i(p:Prog)(h:p.Sm)(l:List Param)(J:l.length<=sm)(V:∀f,f∈l->NC p f.type)(j:Nat)(d:Param)(hd:l[j]?=some d) :Ab prog 282 [A6 j,.A8 [.slice (Aw l)] 0,.A8 [Cz p] 0,.A8 [.slice (Ai [])] 0] (Cw (ve p [] l j d)):=by
 have U:=(V d (Bs hd)).ok h;have E:=G7u l J j d hd;have L:=tK true d.pos;unfold ve;by_cases I:d.name∈(l.take j).map (·.name)
 .rw[A7 I];rw[Bn I]at E;simp only[Kh,Av,Cw,Hu]at L |-;refine cB func282 ?_;refine sR cI ?_;refine kC E cI λO u1=>?_;refine tI ?_
  refine sV cI λK z=>?_;refine ci (Dt hd) ?_;refine cc L ?_;apply z;exact aR
 rw[A5 I];rw[Cb I]at E;generalize Br p [] d.type=o at*;refine cB func282 ?_;refine sR cI ?_;refine kC E cI λO u1=>?_;refine kI u1 ?_;refine sG cI [] 7 [] λK z=>?_;refine ev ?_;refine ci (Dt hd) ?_;refine cc U.ptr ?_;apply z;exact A0.ret ⟨_,by rw[results282];rfl,N2 _ _⟩
theorem BZ(p:Prog)(h:p.Sm)(l:List Param)(E:l.length<=sm)(J:∀f,f∈l->NC p f.type) :I5 prog (pQ p [] l) [] (Cw (Kc p [] [] l)):=by rw[<-qm p [] l []];refine iJ _ _ _ _ (by simp) (by simpa using E) λj x I=>?_;rw[Px,Jn]at I;obtain⟨d,hd,rfl⟩:=I;rw[Wv];exact⟨_,[.A8 [.slice (Aw l)] 0,.A8 [Cz p] 0,.A8 [.slice (Ai [])] 0],_,_,rfl,⟨⟨rfl,rfl⟩,⟨rfl,rfl⟩,⟨rfl,rfl⟩,trivial⟩,rfl,H1i p h l E J j d hd⟩
abbrev YJ:=[0,1,2,3,4,5,6,7,8,9,10]
theorem fh(p:Prog):Ab prog 222 [.A8 (D4 p) 0,.d (.slice (Ai [])),.d (.slice (Ai []))] (Cw none):=by
 have L:=IL [] [] (by simp) (by simp) (by simp) (by simp);have O:=fK [] (by simp);have E:=bK 0 278 [.ptr [Cz p],.ptr [.slice (Ai [])],.ptr [.slice (Bq (Ad []))],.ptr [.slice (Ai [])]];have I:=bK 0 279 [.ptr [.slice (Ai [])],.ptr [Cz p],.ptr [.slice (Ai [])]];have U:Ab prog 211 [.d (.slice [[HE 0 (.cl 278 [.ptr [Cz p],.ptr [.slice (Ai [])],.ptr [.slice (Bq (Ad []))],.ptr [.slice (Ai [])]])],[HE 0 (.cl 279 [.ptr [.slice (Ai [])],.ptr [Cz p],.ptr [.slice (Ai [])]])]])] (Cw none) :=yL [(_,none),(_,none)] (show 2<=sm by decide) (by
   intro x J;simp only[Ay,Eh,Eo]at J;rcases J with rfl|rfl
   .exact iJ _ _ [] 0 rfl (by simp) (by simp)
   .exact iJ _ _ [] 0 rfl (by simp) (by simp))
 generalize(none:Option Int)=R at*;refine cB func222 ?_;refine sR YJ ?_;refine sC L YJ ?_;refine sC O YJ ?_;refine PA 3 rfl rfl ?_;refine gA 4 rfl rfl ?_;refine gA 5 rfl rfl ?_;refine gA 7 rfl rfl ?_;refine gA 8 rfl rfl (wk [(3,.A8 [Cz p] 0),(4,.A8 [.slice (Ai [])] 0),(5,.A8 [.slice (Ai [])] 0),(7,.A8 [.slice (Ai [])] 0),(8,.A8 [.slice (Bq (Ad []))] 0)] [] ?_);refine jA YJ [800018] (by decide +kernel) λK z=>?_;refine ev ?_;refine⟨_,Jp (xs:=[.A8 [Cz p] 0,.A8 [.slice (Ai [])] 0,.A8 [.slice (Bq (Ad []))] 0,.A8 [.slice (Ai [])] 0]) (ys:=[.ptr [Cz p],.ptr [.slice (Ai [])],.ptr [.slice (Bq (Ad []))],.ptr [.slice (Ai [])]]) ⟨⟨rfl,rfl⟩,⟨rfl,rfl⟩,⟨rfl,rfl⟩,⟨rfl,rfl⟩,trivial⟩ rfl,?_⟩;(try refine ev ?_);refine cc E ?_;apply z;refine jA YJ [800022] (by decide +kernel) λK z=>?_;refine ev ?_;refine⟨_,Jp (xs:=[.A8 [.slice (Ai [])] 0,.A8 [Cz p] 0,.A8 [.slice (Ai [])] 0]) (ys:=[.ptr [.slice (Ai [])],.ptr [Cz p],.ptr [.slice (Ai [])]]) ⟨⟨rfl,rfl⟩,⟨rfl,rfl⟩,⟨rfl,rfl⟩,trivial⟩ rfl,?_⟩;(try refine ev ?_);refine cc I ?_;apply z;refine sC U YJ ?_;exact A0.ret ⟨_,by rw[results222];rfl,N2 _ _⟩
theorem G2u(p:Prog)(h:p.Sm)(s:A4)(ht:NC p s.result) :Ab prog 276 [.A8 [Cz p] 0,.A8 [.slice (Ai [])] 0,.A8 (Dp s) 0] (Cw (Br p [] s.result)):=by have E:=ht.ok h;generalize Br p [] s.result=R at*;refine cB func276 ?_;refine sR [0,1,2,3] ?_;refine sC E.ptr [0,1,2,3] ?_;exact A0.ret ⟨_,by rw[results276];rfl,N2 _ _⟩
structure jM(p:Prog)(s:A4):Prop where
 sm:s.Sm
 A1:s.A1=[]
 params:∀f,f∈s.params->NC p f.type
 result:NC p s.result
 ok:Kc p [] [] s.params=none
abbrev TK:=[0,1,2,3,4,5,6,7,8,9]
theorem SZ(p:Prog)(h:p.Sm)(s:A4)(hs:jM p s):Ab prog 216 [.A8 (D4 p) 0,.d (.slice (Ai [])),Db s] (Cw none):=by
 have O:Ab prog 229 [.d (.slice (Ai [])),.d (.slice (Ai s.A1))] (.d (.slice (Ai []))):=by rw[hs.A1];exact IL [] [] (by simp) (by simp) (by simp) (by simp)
 have V:=x6 p [] s.params hs.sm.params.1;have J:I5 prog (.cl 275 [.ptr [Cz p],.ptr [.slice (Ai [])],.ptr (Dp s)]) [] (Cw none) :=⟨_,[.A8 [Cz p] 0,.A8 [.slice (Ai [])] 0,.A8 (Dp s) 0],_,_,rfl,⟨⟨rfl,rfl⟩,⟨rfl,rfl⟩,⟨rfl,rfl⟩,trivial⟩,rfl,by have:=xt p [] s (by rw[hs.A1];exact fh p);rw[hs.A1]at this;exact this⟩
 have E:=BZ p h s.params hs.sm.params.1 hs.params;rw[hs.ok]at E;have I:I5 prog (.cl 276 [.ptr [Cz p],.ptr [.slice (Ai [])],.ptr (Dp s)]) [] (Cw none) :=⟨_,[.A8 [Cz p] 0,.A8 [.slice (Ai [])] 0,.A8 (Dp s) 0],_,_,rfl,⟨⟨rfl,rfl⟩,⟨rfl,rfl⟩,⟨rfl,rfl⟩,trivial⟩,rfl,by have:=G2u p h s hs.result;rw[hs.result.2]at this;exact this⟩
 have U:Ab prog 211 [.d (.slice [[.cl 275 [.ptr [Cz p],.ptr [.slice (Ai [])],.ptr (Dp s)]],[pQ p [] s.params],[.cl 276 [.ptr [Cz p],.ptr [.slice (Ai [])],.ptr (Dp s)]]])] (Cw none) :=yL [(_,none),(_,none),(_,none)] (show 3<=sm by decide) (by
   intro x L;simp only[Ay,Eh,Eo]at L;rcases L with rfl|rfl|rfl
   .exact J
   .exact E
   .exact I)
 generalize(none:Option Int)=R at*;refine cB func216 ?_;refine sR TK ?_;refine sC O TK ?_;refine PA 3 rfl rfl ?_;refine gA 4 rfl rfl ?_;refine gA 5 rfl rfl ?_;refine gA 7 rfl rfl (wk [(3,.A8 [Cz p] 0),(4,.A8 [.slice (Ai [])] 0),(5,.A8 (Dp s) 0),(7,.A8 [.slice (Ai [])] 0)] [] ?_);refine jA TK [800014] (by decide +kernel) λK z=>?_;refine ev ?_;refine⟨_,Jp (xs:=[.A8 [Cz p] 0,.A8 [.slice (Ai [])] 0,.A8 (Dp s) 0]) (ys:=[.ptr [Cz p],.ptr [.slice (Ai [])],.ptr (Dp s)]) ⟨⟨rfl,rfl⟩,⟨rfl,rfl⟩,⟨rfl,rfl⟩,trivial⟩ rfl,?_⟩;(try refine ev ?_);apply z;refine jA TK [800015] (by decide +kernel) λK z=>?_;refine ev ?_;refine⟨_,Jp (xs:=[.A8 [Cz p] 0,.A8 [.slice (Ai [])] 0,.A8 (Dp s) 0]) (ys:=[.ptr [Cz p],.ptr [.slice (Ai [])],.ptr (Dp s)]) ⟨⟨rfl,rfl⟩,⟨rfl,rfl⟩,⟨rfl,rfl⟩,trivial⟩ rfl,?_⟩;(try refine ev ?_);apply z;refine sV TK λK z=>?_;refine cc V.ptr ?_;refine cc U ?_;apply z;exact A0.ret ⟨_,by rw[results216];rfl,N2 _ _⟩
theorem G4g(p:Prog)(h:p.Sm)(d:Decl)(hd:d.Sm)(L:d.A1=[])(Z:(d.sigs.map (·.name)).Nodup)(O:∀s,s∈d.sigs->jM p s)(j:Nat)(s:A4)(hs:d.sigs[j]?=some s) :Ab prog 226 [A6 j,.A8 (Am d) 0,.A8 [Cz p] 0] (Cw none):=by
 have E:=G4o d.sigs hd.sigs.1 j s hs;have I:=SZ p h s (O s (Bs hs));rw[<-L]at I;have J:¬s.name∈(d.sigs.take j).map (·.name):=λJ=>by obtain⟨y,W,e⟩:=Ap.1 J;obtain⟨k,hk,rfl⟩:=List.mem_take_iff_getElem.1 W;obtain⟨U,rfl⟩:=Az.1 hs;have:=LG.1 Z k j (by simp;omega) (by simpa using U) (by omega);simp at this;exact this e
 rw[Cb J]at E;generalize(none:Option Int)=o at*;refine cB func226 ?_;refine sR [0,1,2,4,8] ?_;refine kC E [0,1,2,4,8] λV u1=>?_;refine kI u1 ?_;refine sG [0,1,2,4,8] [] 8 [] λK z=>?_;refine ev ?_;refine ci (Dg hs) ?_;refine cc I.ptr ?_;apply z;exact A0.ret ⟨_,by rw[results226];rfl,N2 _ _⟩
structure YT(p:Prog)(front:List Decl)(d:Decl):Prop where
 sm:d.Sm
 A1:d.A1=[]
 H1m:(front.any λx=>x.E5 d.name)=false
 fields:d.kind=1->(∀f,f∈d.fields->NC p f.type)/\Kc p [] [] d.fields=none/\Ab prog 223 [.A8 [Cz p] 0,.A8 (Am d) 0] (Cw none)
 sigs:¬d.kind=1->(d.sigs.map (·.name)).Nodup/\∀s,s∈d.sigs->jM p s
abbrev U4:=[0,1,2,3,4,5,6,7,8,9,10,11,17]
theorem cT(p:Prog)(h:p.Sm)(front:List Decl)(Z:front.length<=sm)(d:Decl)(hp:YT p front d) :Ab prog 150 [.A8 (D4 p) 0,.d (.slice (Bx front)),Hw d] (Cw none):=by
 have hd:=hp.sm;have f2:I5 prog (.cl 220 [.ptr [.slice (Bx front)],.ptr [.cl 219 [.ptr (Am d)]],.ptr (Am d)]) [] (Cw none) :=⟨_,[.A8 [.slice (Bx front)] 0,.A8 [.cl 219 [.ptr (Am d)]] 0,.A8 (Am d) 0],_,_,rfl,⟨⟨rfl,rfl⟩,⟨rfl,rfl⟩,⟨rfl,rfl⟩,trivial⟩,rfl,by have:=gw front Z d;rw[hp.H1m]at this;exact this⟩
 have f3:I5 prog (.cl 221 [.ptr [Cz p],.ptr (Am d)]) [] (Cw none) :=⟨_,[.A8 [Cz p] 0,.A8 (Am d) 0],_,_,rfl,⟨⟨rfl,rfl⟩,⟨rfl,rfl⟩,trivial⟩,rfl,F7v p d _ (by rw[hp.A1];exact fh p)⟩
 rcases Fc (decide (d.kind=1))with m|m
 .obtain⟨I,J,W⟩:=hp.fields (of_decide_eq_true m);have f4:I5 prog (.cl 223 [.ptr [Cz p],.ptr (Am d)]) [] (Cw none) :=⟨_,[.A8 [Cz p] 0,.A8 (Am d) 0],_,_,rfl,⟨⟨rfl,rfl⟩,⟨rfl,rfl⟩,trivial⟩,rfl,W⟩
  have f5:=BZ p h d.fields hd.fields.1 I;rw[J]at f5;have hP:=x6 p d.A1 d.fields hd.fields.1;rw[<-hp.A1]at f5;have U:Ab prog 211 [.d (.slice [[.cl 220 [.ptr [.slice (Bx front)],.ptr [.cl 219 [.ptr (Am d)]],.ptr (Am d)]],[.cl 221 [.ptr [Cz p],.ptr (Am d)]],[pQ p d.A1 d.fields],[.cl 223 [.ptr [Cz p],.ptr (Am d)]]])] (Cw none) :=yL [(_,none),(_,none),(_,none),(_,none)] (show 4<=sm by decide) (by
    intro x E;simp only[Ay,Eh,Eo]at E;rcases E with rfl|rfl|rfl|rfl
    .exact f2
    .exact f3
    .exact f5
    .exact f4)
  generalize(none:Option Int)=R at*;refine cB func150 ?_;refine sR U4 ?_;refine PA 3 rfl rfl ?_;refine gA 4 rfl rfl ?_;refine gA 5 rfl rfl (wk [(3,.A8 [Cz p] 0),(4,.A8 [.slice (Bx front)] 0),(5,.A8 (Am d) 0)] [] ?_);refine jA U4 [800012] (by decide +kernel) λK z=>?_;refine ev ?_;refine⟨_,Jp (xs:=[.A8 (Am d) 0]) (ys:=[.ptr (Am d)]) ⟨⟨rfl,rfl⟩,trivial⟩ rfl,?_⟩;(try refine ev ?_);apply z;refine gA 7 rfl rfl (wk [(3,.A8 [Cz p] 0),(4,.A8 [.slice (Bx front)] 0),(5,.A8 (Am d) 0),(7,.A8 [.cl 219 [.ptr (Am d)]] 0)] [] ?_);refine jA U4 [800013] (by decide +kernel) λK z=>?_;refine ev ?_;refine⟨_,Jp (xs:=[.A8 [.slice (Bx front)] 0,.A8 [.cl 219 [.ptr (Am d)]] 0,.A8 (Am d) 0]) (ys:=[.ptr [.slice (Bx front)],.ptr [.cl 219 [.ptr (Am d)]],.ptr (Am d)]) ⟨⟨rfl,rfl⟩,⟨rfl,rfl⟩,⟨rfl,rfl⟩,trivial⟩ rfl,?_⟩;(try refine ev ?_);apply z;refine jA U4 [800014] (by decide +kernel) λK z=>?_;refine ev ?_;refine⟨_,Jp (xs:=[.A8 [Cz p] 0,.A8 (Am d) 0]) (ys:=[.ptr [Cz p],.ptr (Am d)]) ⟨⟨rfl,rfl⟩,⟨rfl,rfl⟩,trivial⟩ rfl,?_⟩;(try refine ev ?_);apply z;refine Ag m U4 λV u1=>?_;refine tI ?_;refine jA U4 [800018] (by decide +kernel) λK z=>?_;refine ev ?_;refine⟨_,Jp (xs:=[.A8 [Cz p] 0,.A8 (Am d) 0]) (ys:=[.ptr [Cz p],.ptr (Am d)]) ⟨⟨rfl,rfl⟩,⟨rfl,rfl⟩,trivial⟩ rfl,?_⟩;(try refine ev ?_);apply z;refine sV U4 λK z=>?_;refine cc hP.ptr ?_;refine cc U ?_;apply z;exact A0.ret ⟨_,by rw[results150];rfl,N2 _ _⟩
 .obtain⟨I,J⟩:=hp.sigs (of_decide_eq_false m);have O:=hd.sigs.1;have hE:=bK d.sigs.length 226 [.ptr (Am d),.ptr [Cz p]];have f6:=iJ 226 [.ptr (Am d),.ptr [Cz p]] (d.sigs.map λ_=>none) d.sigs.length (by simp) (by simpa using O) λj x E=>by rw[Df,Jn]at E;obtain⟨s,L,rfl⟩:=E;exact⟨_,[.A8 (Am d) 0,.A8 [Cz p] 0],_,_,rfl,⟨⟨rfl,rfl⟩,⟨rfl,rfl⟩,trivial⟩,rfl,G4g p h d hd hp.A1 I J j s L⟩
  rw[oL (by simp)]at f6;have U:Ab prog 211 [.d (.slice [[.cl 220 [.ptr [.slice (Bx front)],.ptr [.cl 219 [.ptr (Am d)]],.ptr (Am d)]],[.cl 221 [.ptr [Cz p],.ptr (Am d)]],[HE d.sigs.length (.cl 226 [.ptr (Am d),.ptr [Cz p]])]])] (Cw none) :=yL [(_,none),(_,none),(_,none)] (show 3<=sm by decide) (by
    intro x E;simp only[Ay,Eh,Eo]at E;rcases E with rfl|rfl|rfl
    .exact f2
    .exact f3
    .exact f6)
  generalize(none:Option Int)=R at*;refine cB func150 ?_;refine sR U4 ?_;refine PA 3 rfl rfl ?_;refine gA 4 rfl rfl ?_;refine gA 5 rfl rfl (wk [(3,.A8 [Cz p] 0),(4,.A8 [.slice (Bx front)] 0),(5,.A8 (Am d) 0)] [] ?_);refine jA U4 [800012] (by decide +kernel) λK z=>?_;refine ev ?_;refine⟨_,Jp (xs:=[.A8 (Am d) 0]) (ys:=[.ptr (Am d)]) ⟨⟨rfl,rfl⟩,trivial⟩ rfl,?_⟩;(try refine ev ?_);apply z;refine gA 7 rfl rfl (wk [(3,.A8 [Cz p] 0),(4,.A8 [.slice (Bx front)] 0),(5,.A8 (Am d) 0),(7,.A8 [.cl 219 [.ptr (Am d)]] 0)] [] ?_);refine jA U4 [800013] (by decide +kernel) λK z=>?_;refine ev ?_;refine⟨_,Jp (xs:=[.A8 [.slice (Bx front)] 0,.A8 [.cl 219 [.ptr (Am d)]] 0,.A8 (Am d) 0]) (ys:=[.ptr [.slice (Bx front)],.ptr [.cl 219 [.ptr (Am d)]],.ptr (Am d)]) ⟨⟨rfl,rfl⟩,⟨rfl,rfl⟩,⟨rfl,rfl⟩,trivial⟩ rfl,?_⟩;(try refine ev ?_);apply z;refine jA U4 [800014] (by decide +kernel) λK z=>?_;refine ev ?_;refine⟨_,Jp (xs:=[.A8 [Cz p] 0,.A8 (Am d) 0]) (ys:=[.ptr [Cz p],.ptr (Am d)]) ⟨⟨rfl,rfl⟩,⟨rfl,rfl⟩,trivial⟩ rfl,?_⟩;(try refine ev ?_);apply z;refine Ag m U4 λV u1=>?_;refine kI u1 ?_;refine jA U4 [800033] (by decide +kernel) λK z=>?_;refine ev ?_;refine⟨_,Jp (xs:=[.A8 (Am d) 0,.A8 [Cz p] 0]) (ys:=[.ptr (Am d),.ptr [Cz p]]) ⟨⟨rfl,rfl⟩,⟨rfl,rfl⟩,trivial⟩ rfl,?_⟩;(try refine ev ?_);refine cc hE ?_;apply z;refine sC U U4 ?_;exact A0.ret ⟨_,by rw[results150];rfl,N2 _ _⟩
theorem dN{p:Prog}{d:Decl}(E:Dm p d.name=[]):Fq p d=[]:=by unfold Fq;rw[E];rfl
abbrev Zd:=[0,1,3,4,5,6,7,9,10,11,19,20,21,22,35,36,37]
theorem zi(p:Prog)(h:p.Sm)(d:Decl)(O:d.vars=[])(V:Dm p d.name=[]):Ab prog 217 [.A8 (D4 p) 0,Hw d] (.d (.slice (Ai []))):=by
 rw[<-dN V];have I:=CQ h d.name;have Z:=GU p h d.name;have J:=fK (Dm p d.name) I.1;have a0:d.vars.length<=sm:=by rw[O];simp
 unfold Fq;generalize hL:Dm p d.name=L at*;have a1:=I.1;refine cB func217 ?_;refine sR Zd ?_;refine gA 3 rfl rfl (wk [(0,.A8 (D4 p) 0),(3,.A8 (Am d) 0),(4,.d .nil)] [] ?_);refine sC Z Zd ?_;refine sC J Zd ?_;refine sR Zd ?_;refine A0.pp 7 3 7 rfl<|kR Zd λU u1=>?_;refine bA (A0.ii d.vars (X:=Unit) (λj _=>[(3,.A8 (Am d) 0),(5,.d (.slice (Ai L))),(6,.d (.slice (Bq (L.map (·.name))))),(7,.acc 7),(19,.d (.slice (Bq d.vars))),(20,A6 d.vars.length),(21,A6 j)]) (λj _=>[(7,.rows 3 (Au (Fj (d.vars.take j))))]) (λj _=>True) () trivial (by simp[sle,B0,Ae,Am]) (by simp[ble,A9,Cq,Fj]) ?_ ?_)
 rotate_left;intro j _ s hs;rw[O]at hs;simp at hs;intro _ _;rw[Ca];refine Ak B1 Zd ?_;refine A0.stop rfl ?_;simp only[Aa,Af,Av];apply u1;refine A0.Km 7 rfl (wk [(3,.A8 (Am d) 0),(5,.d (.slice (Ai L))),(6,.d (.slice (Bq (L.map (·.name))))),(7,.d (.slice (Au (Fj d.vars))))] [] ?_);refine sR Zd ?_;refine A0.pp 10 5 10 rfl ?_;have E:(if((Fj d.vars).length:Int)<(L.length:Int)then((Fj d.vars).length:Int)else(L.length:Int))=((L.zip d.vars).length:Int):=by rw[rE];simp only[Fj,B7];split <;> omega
 have a2:(L.zip d.vars).length<=sm:=by rw[rE];omega
 refine sK λU u1=>?_;refine sV Zd λK z=>?_;refine⟨_,F8e rfl rfl,?_⟩;(try refine ev ?_);apply z;rw[E];refine bA (A0.ii (L.zip d.vars) (X:=Unit) (λj _=>[(3,.A8 (Am d) 0),(5,.d (.slice (Ai L))),(6,.d (.slice (Bq (L.map (·.name))))),(7,.d (.slice (Au (Fj d.vars)))),(10,.acc 10),(35,A6 (L.zip d.vars).length),(36,A6 j)]) (λj _=>[(10,.rows 5 (Ai (((L.zip d.vars).take j).map λz=>⟨z.2,z.1.bound.subst (Ad L) (Fj d.vars),z.1.pos⟩)))]) (λj _=>True) () trivial (by simp[sle,B0,Ae,Am]) (by simp[ble,A9,Ai]) ?_ ?_);rotate_left;intro j _ z W;rw[O]at W;simp at W;intro _ _;rw[Ca];refine Ak B1 Zd ?_;refine A0.stop rfl ?_;simp only[Aa,Af,Av];apply u1;refine A0.Km 10 rfl (wk [(10,.d (.slice (Ai ((L.zip d.vars).map λz=>⟨z.2,z.1.bound.subst (Ad L) (Fj d.vars),z.1.pos⟩))))] [] ?_);refine sR Zd ?_;exact aR
structure wK(p:Prog)(front:List Decl)(d:Decl):Prop where
 sm:d.Sm
 vars:d.vars=[]
 on:Dm p d.name=[]
 kind:kindOf p d.name=1
 G8e:front.any (E2 d.name d.sig.name)=false
 sig:jM p d.sig
 recv:∀f,f∈d.sig.params->f.name≠d.recv
theorem H2u(p:Prog)(h:p.Sm){front:List Decl}(d:Decl)(E:wK p front d):Ab prog 215 [.A8 [Cz p] 0,.A8 (Am d) 0] (Cw none):=by have I:=zi p h d E.vars E.on;have hs:=SZ p h d.sig E.sig;generalize(none:Option Int)=o at*;refine cB func215 ?_;refine sR [0,1,2] ?_;refine sG [0,1,2] [] 6 [] λK z=>?_;refine ev ?_;refine cc I.ptr ?_;refine cc hs.ptr ?_;apply z;exact A0.ret ⟨_,by rw[results215];rfl,N2 _ _⟩
abbrev jL:=[0,1,2,3,4,5,6,7,8,9]
theorem F8j(p:Prog)(h:p.Sm)(front:List Decl)(W:front.length<=sm)(d:Decl)(E:wK p front d) :Ab prog 149 [.A8 (D4 p) 0,.d (.slice (Bx front)),Hw d] (Cw none):=by
 have hd:=E.sm;have V:=hd.vars.1;have L:=hd.sig.params.1;have f1:I5 prog (.cl 212 [.ptr [P0 d],.ptr [Cz p],.ptr (Am d)]) [] (Cw none) :=⟨_,[.A8 [P0 d] 0,.A8 [Cz p] 0,.A8 (Am d) 0],_,_,rfl,⟨⟨rfl,rfl⟩,⟨rfl,rfl⟩,⟨rfl,rfl⟩,trivial⟩,rfl,by have:=G5p p h d;rw[show xH p d=none by unfold xH;rw[A5 (by rw[E.kind,E.on,E.vars];simp)]]at this;exact this⟩
 have f2:=iJ 208 [.ptr [P0 d],.ptr [Cz p],.ptr (Am d)] [] d.vars.length (by rw[E.vars];rfl) (by simp) (by simp);have f3:I5 prog (.cl 214 [.ptr [P0 d],.ptr [.slice (Bx front)],.ptr [.cl 206 [.ptr (Am d)]]]) [] (Cw none) :=⟨_,[.A8 [P0 d] 0,.A8 [.slice (Bx front)] 0,.A8 [.cl 206 [.ptr (Am d)]] 0],_,_,rfl,⟨⟨rfl,rfl⟩,⟨rfl,rfl⟩,⟨rfl,rfl⟩,trivial⟩,rfl,by have:=G0y front W d;rw[E.G8e]at this;exact this⟩
 have f4:I5 prog (.cl 215 [.ptr [Cz p],.ptr (Am d)]) [] (Cw none) :=⟨_,[.A8 [Cz p] 0,.A8 (Am d) 0],_,_,rfl,⟨⟨rfl,rfl⟩,⟨rfl,rfl⟩,trivial⟩,rfl,H2u p h d E⟩
 have f5:=iJ 218 [.ptr (Am d)] (d.sig.params.map λ_=>none) d.sig.params.length (by simp) (by simpa using L) λj x I=>by rw[Df,Jn]at I;obtain⟨f,U,rfl⟩:=I;exact⟨_,[.A8 (Am d) 0],_,_,rfl,⟨⟨rfl,rfl⟩,trivial⟩,rfl,by have:=G5m d j f U;rw[Cb (E.recv f (Bs U))]at this;exact this⟩
 rw[oL (by simp)]at f5;have J:=bK d.vars.length 208 [.ptr [P0 d],.ptr [Cz p],.ptr (Am d)];have O:=bK d.sig.params.length 218 [.ptr (Am d)];have Z:Ab prog 211 [.d (.slice [[.cl 212 [.ptr [P0 d],.ptr [Cz p],.ptr (Am d)]],[HE d.vars.length (.cl 208 [.ptr [P0 d],.ptr [Cz p],.ptr (Am d)])],[.cl 214 [.ptr [P0 d],.ptr [.slice (Bx front)],.ptr [.cl 206 [.ptr (Am d)]]]],[.cl 215 [.ptr [Cz p],.ptr (Am d)]],[HE d.sig.params.length (.cl 218 [.ptr (Am d)])]])] (Cw none) :=yL [(_,none),(_,none),(_,none),(_,none),(_,none)] (show 5<=sm by decide) (by
   intro x I;simp only[Ay,Eh,Eo]at I;rcases I with rfl|rfl|rfl|rfl|rfl
   .exact f1
   .exact f2
   .exact f3
   .exact f4
   .exact f5)
 generalize(none:Option Int)=R at*;refine cB func149 ?_;refine sR jL ?_;refine PA 3 rfl rfl ?_;refine gA 4 rfl rfl ?_;refine gA 5 rfl rfl (wk [(3,.A8 [Cz p] 0),(4,.A8 [.slice (Bx front)] 0),(5,.A8 (Am d) 0)] [] ?_);refine jA jL [800010] (by decide +kernel) λK z=>?_;refine ev ?_;refine⟨_,Jp (xs:=[.A8 (Am d) 0]) (ys:=[.ptr (Am d)]) ⟨⟨rfl,rfl⟩,trivial⟩ rfl,?_⟩;(try refine ev ?_);apply z;refine jA jL [800011] (by decide +kernel) λK z=>?_;refine ev ?_;refine⟨_,Jp (xs:=[.A8 (Am d) 0]) (ys:=[.ptr (Am d)]) ⟨⟨rfl,rfl⟩,trivial⟩ rfl,?_⟩;(try refine ev ?_);apply z;refine gA 7 rfl rfl ?_;refine gA 8 rfl rfl (wk [(3,.A8 [Cz p] 0),(4,.A8 [.slice (Bx front)] 0),(5,.A8 (Am d) 0),(7,.A8 [P0 d] 0),(8,.A8 [.cl 206 [.ptr (Am d)]] 0)] [] ?_);refine jA jL [800015] (by decide +kernel) λK z=>?_;refine ev ?_;refine⟨_,Jp (xs:=[.A8 [P0 d] 0,.A8 [Cz p] 0,.A8 (Am d) 0]) (ys:=[.ptr [P0 d],.ptr [Cz p],.ptr (Am d)]) ⟨⟨rfl,rfl⟩,⟨rfl,rfl⟩,⟨rfl,rfl⟩,trivial⟩ rfl,?_⟩;(try refine ev ?_);refine cc J ?_;apply z;refine jA jL [800017,800019,800020,800025] (by decide +kernel) λK z=>?_;refine ev ?_;refine⟨_,Jp (xs:=[.A8 [P0 d] 0,.A8 [Cz p] 0,.A8 (Am d) 0]) (ys:=[.ptr [P0 d],.ptr [Cz p],.ptr (Am d)]) ⟨⟨rfl,rfl⟩,⟨rfl,rfl⟩,⟨rfl,rfl⟩,trivial⟩ rfl,?_⟩;(try refine ev ?_);refine⟨_,Jp (xs:=[.A8 [P0 d] 0,.A8 [.slice (Bx front)] 0,.A8 [.cl 206 [.ptr (Am d)]] 0]) (ys:=[.ptr [P0 d],.ptr [.slice (Bx front)],.ptr [.cl 206 [.ptr (Am d)]]]) ⟨⟨rfl,rfl⟩,⟨rfl,rfl⟩,⟨rfl,rfl⟩,trivial⟩ rfl,?_⟩;(try refine ev ?_);refine⟨_,Jp (xs:=[.A8 [Cz p] 0,.A8 (Am d) 0]) (ys:=[.ptr [Cz p],.ptr (Am d)]) ⟨⟨rfl,rfl⟩,⟨rfl,rfl⟩,trivial⟩ rfl,?_⟩;(try refine ev ?_);refine⟨_,Jp (xs:=[.A8 (Am d) 0]) (ys:=[.ptr (Am d)]) ⟨⟨rfl,rfl⟩,trivial⟩ rfl,?_⟩;(try refine ev ?_);refine cc O ?_;refine cc Z ?_;apply z;exact A0.ret ⟨_,by rw[results149];rfl,N2 _ _⟩
abbrev Wk:=[0,1,4,5,6,17,28,35]
theorem MV(p:Prog)(h:p.Sm){j:Nat}{d:Decl}(hd:p.decls[j]?=some d)(L:Vf d=true)(E:d.kind=3->Ab prog 149 [.A8 (D4 p) 0,.d (.slice (Bx (p.decls.take j))),Hw d] (Cw none))(hT:¬d.kind=3->Ab prog 150 [.A8 (D4 p) 0,.d (.slice (Bx (p.decls.take j))),Hw d] (Cw none)) :Ab prog 72 [.A8 (D4 p) 0,A6 j] (Cw none):=by
 have hp:=fR p h;have V:=h.decls.1;have W:=(Az.1 hd).1;have O:¬(j:Int)<0:=by omega
 have U:¬(j:Int) >= (p.decls.length:Int):=by omega
 have J:=yj d;rw[L]at J;rw[show Bx (p.decls.take j)=(Bx p.decls).take j by simp[Bx,List.map_take]]at E hT;generalize(none:Option Int)=R at*;rcases Fc (decide (d.kind=3))with m|m
 .have E:=E (of_decide_eq_true m);refine cB func72 ?_;refine sR Wk ?_;refine sC hp Wk ?_;refine Dq O U Wk λI u1=>?_;refine kI u1 ?_;refine sI (E6 hd) [0,1,4,5,6,17,28,35] ?_;refine bA<|sC J Wk ?_;refine dA rfl<|Ak m Wk ?_;refine eA rfl ?_
  refine sG Wk [] 5 [] λK z=>?_;refine ev ?_;refine⟨oV _,by omega,by omega,?_⟩;(try refine ev ?_);refine cc E ?_;apply z;exact A0.ret ⟨_,by rw[results72];rfl,N2 _ _⟩
 .have hT:=hT (of_decide_eq_false m);refine cB func72 ?_;refine sR Wk ?_;refine sC hp Wk ?_;refine Dq O U Wk λI u1=>?_;refine kI u1 ?_;refine sI (E6 hd) [0,1,4,5,6,17,28,35] ?_;refine bA<|sC J Wk ?_;refine dA rfl<|Ak m Wk ?_;refine dA rfl ?_
  refine sG Wk [] 5 [] λK z=>?_;refine ev ?_;refine⟨oV _,by omega,by omega,?_⟩;(try refine ev ?_);refine cc hT ?_;apply z;exact A0.ret ⟨_,by rw[results72];rfl,N2 _ _⟩
theorem EY{p:Prog}(h:p.Sm)(j:Nat):(p.decls.take j).length<=sm:=by have:=h.decls.1;rw[Dh];omega
theorem xy(p:Prog)(h:p.Sm){j:Nat}{d:Decl}(hd:p.decls[j]?=some d)(E:Vf d=true)(I:d.kind=3->wK p (p.decls.take j) d)(ht:¬d.kind=3->YT p (p.decls.take j) d):Ab prog 72 [.A8 (D4 p) 0,A6 j] (Cw none) :=MV p h hd E (λk=>F8j p h _ (EY h j) d (I k)) λk=>cT p h _ (EY h j) d (ht k)
abbrev KH:=[0,1,3,4,5,6,8,9,12,17,18,19,20,35,900]
theorem G4v(p:Prog)(h:p.Sm){front:List Decl}(d:Decl)(E:wK p front d)(V:d.sig.params.length+1<=sm)(k3:d.kind=3):Ab prog 151 [.A8 (D4 p) 0,Hw d] (scV (Hv p false d)):=by
 have hd:=E.sm;have I:=zi p h d E.vars E.on;have O:=hd.vars.1;have U:Ab prog 229 [.d (.slice (Ai [])),.d (.slice (Ai d.sig.A1))] (.d (.slice (Ai []))):=by rw[E.sig.A1];exact IL [] [] (by simp) (by simp) (by simp) (by simp)
 have L:(Hv p false d).env=[]:=by show Fq p d++d.sig.A1=[];rw[dN E.on,E.sig.A1];rfl
 have W:Aw (Hv p false d).vars=[[.str d.recv,.str d.name,.slice (Au (Fj d.vars)),.int .i64 0,.int .i64 0]]++Aw d.sig.params:=rfl;unfold scV;rw[L,W];have d3:=Bn k3;refine cB func151 ?_;refine sR KH<|sK λJ u1=>?_
 refine sQ KH λK z=>?_;simp -implicitDefEqProofs only[EV,D8,Nat.reduceEqDiff,reduceCtorEq,M9,d3];apply z;refine kI u1 ?_;refine sR KH ?_;refine rA 900 3 6 1 rfl rfl (by decide)<|kR KH λJ u1=>?_;refine bA (A0.ii d.vars (X:=Unit) (λj _=>[(0,.A8 (D4 p) 0),(3,.box 3 0),(6,.box 6 0),(17,Cm d.vars),(18,A6 d.vars.length),(19,A6 j)]) (λj _=>[(3,.cells (Ti d)),(6,.cells [.d (.str d.name),.acc 900,.d (.int .i64 0)]),(900,.rows 3 (Au (Fj (d.vars.take j))))]) (λ_ _=>True) () trivial sS (by simp[ble,A9,Cq,Fj]) ?_ ?_)
 rotate_left;intro j _ s hs;rw[E.vars]at hs;simp at hs;intro _ _;rw[Ca];refine Ak B1 KH ?_;refine A0.stop rfl ?_;simp only[Aa,Af,Av];apply u1;refine A0.Km 900 rfl (wk [(0,.A8 (D4 p) 0),(3,.box 3 0),(6,.box 6 0)] [(3,.cells (Ti d)),(6,.cells [.d (.str d.name),.d (.slice (Au (Fj d.vars))),.d (.int .i64 0)])] ?_);refine jA KH [35] (by decide +kernel) λK z=>?_;refine ev ?_;refine⟨uV _,by unfold lim sm at*;omega,?_⟩;(try refine ev ?_);apply z;refine A0.Km 35 rfl (wk [(0,.A8 (D4 p) 0),(3,.box 3 0),(9,.d (.slice ([[.str d.recv,.str d.name,.slice (Au (Fj d.vars)),.int .i64 0,.int .i64 0]]++Aw d.sig.params)))] [(3,.cells (Ti d))] ?_);refine sG KH [] 9 [] λK z=>?_;refine ev ?_;refine cc I ?_;refine cc U ?_;apply z;exact aR
def On(p:Prog)(d:Decl):Prop:=d.kind=3->(∃front,wK p front d)/\BG d.body/\∃t,Dc (Hv p false d) d.body=(t,none)/\Cr p [] t d.sig.result=true
theorem so(p:Prog)(d:Decl)(k3:¬d.kind=3):Ab prog 73 [.A8 (D4 p) 0,Ar false,Hw d] (Cw none):=by refine cB func73 ?_;refine sR [0,1,2,5,6,7,8,11] ?_;refine Ag k3 [0,1,2,5,6,7,8,11] λE u1=>?_;refine tI ?_;refine sR [0,1,2,5,6,7,8,11] ?_;exact aR
abbrev eO:=[0,1,2,5,6,7,8,11]
theorem G1h(p:Prog)(h:p.Sm)(d:Decl)(hd:d.Sm)(Z:d.AG)(J:d.sig.params.length+1<=sm)(hb:On p d):Ab prog 73 [.A8 (D4 p) 0,Ar false,Hw d] (Cw none):=by
 by_cases k3:d.kind=3
 .obtain⟨⟨front,U⟩,V,t,ht,hi⟩:=hb k3;have O:=G4v p h d U J k3;have L:=UN h false hd Z J;have I:(Hv p false d).env=[]:=by show Fq p d++d.sig.A1=[];rw[dN U.on,U.sig.A1];rfl
  have E:=H2w (Hv p false d) L I d.body hd.body V ht d.sig.result hd.sig.result (by rw[I];exact hi);have hp:(Hv p false d).p=p:=rfl;rw[hp]at E;generalize Hv p false d=c at*;have d3:=Bn k3;simp only[Cw,Hu];refine cB func73 ?_;refine sR eO<|sK λW u1=>?_
  refine sQ eO λK z=>?_;simp -implicitDefEqProofs only[EV,D8,Nat.reduceEqDiff,reduceCtorEq,M9,d3];apply z;refine kI u1 ?_;refine sC O eO ?_;refine sC E eO ?_;exact aR
 exact so p d k3
abbrev Us:=[0,1,2,4,5,6,7,11,12,13,14,22,28,31]
theorem sa(p:Prog)(h:p.Fit)(W:∀(j:Nat)(d:Decl),p.decls[j]?=some d->Ab prog 72 [.A8 (D4 p) 0,A6 j] (Cw none))(Z:∀d,d∈p.decls->Ab prog 73 [.A8 (D4 p) 0,Ar false,Hw d] (Cw none)){t:Ty}(hF:Ab prog 153 [Nk ⟨p,false,[],[]⟩,D6 p.main] (Sa (t,none))):Ab prog 27 [Cs p,Ar false] (Cw none):=by
 simp only[Cw,Hu]at W Z |-;have a0:=h.sm.decls.1;have I:=H2z ⟨p,false,[],[]⟩ p.main hF;have E:=zM p h.sm;simp only[show Ai ([]:List Aj)=[] from rfl,show Aw ([]:List Param)=[] from rfl]at I;refine cB func27 ?_;refine sR Us ?_;refine A0.scope<|sC E Us ?_;refine oG<|kR Us λU u1=>?_;refine bA (A0.ii p.decls (X:=Unit) (λj _=>[(1,Ar false),(2,.box 2 0),(4,.d .Hd),(5,.A8 (D4 p) 0),(11,.d (.slice (Bx p.decls))),(12,A6 p.decls.length),(13,A6 j)]) (λ_ _=>[(2,.cells ((Ah p).map .d))]) (λ_ _=>True) () trivial sS (by simp[ble,A9,Ah]) ?_ ?_)
 rotate_left
 .intro j _ d hd J dp tk L _;have O:=W j d hd;have V:=Z d J;refine Ak L Us ?_;refine kA rfl<|sK λK2 u2=>bA<|sI (E6 hd) [0,1,2,4,5,6,7,11,12,13,14,22,28,31] ?_;refine kC O Us λK3 u3=>?_;refine sR Us ?_;refine eA rfl ?_
  (refine lV Us λK z=>?_;refine cc V ?_;apply z;try simp only[Aa,]);apply u3;refine sR Us ?_;refine dA rfl (cA (u2 _ _ ?_));refine lT Us ?_;exact⟨(),trivial,sS,by simp[ble,A9,Ah]⟩
 intro _ _;refine Ak B1 Us ?_;refine A0.stop rfl ?_;simp only[Aa,Af,Av];apply u1;refine kR Us λU u1=>?_;refine eA rfl ?_;(refine lV Us λK z=>?_;refine cc I ?_;apply z;try simp only[Aa,]);apply u1;refine sR Us ?_;exact aR
theorem rY(p:Prog)(h:p.Sm)(hp:p.Le)(L:Pp p=true)(E:Ab prog 27 [Cs p,Ar false] (Cw none)):Ab prog 8 [Cs p] (Cw none):=by have I:=SX p hp h;rw[L]at I;simp only[Cw,Hu]at E |-;refine cB func8 ?_;refine sR [0,1,2,5] ?_;refine kC I [0,1,2,5] λJ u1=>?_;refine kI u1 ?_;refine sC E [0,1,2,5] ?_;exact aR
theorem pz(p:Prog)(h:p.Sm)(hp:p.Le)(J:Pp p=false):Ab prog 8 [Cs p] (Cw (some 0)):=by have E:=SX p hp h;have I:=oo 4 0;rw[J]at E;refine cB func8 ?_;refine sR [0,1,2,5] ?_;refine kC E [0,1,2,5] λL u1=>?_;refine tI ?_;refine sC I [0,1,2,5] ?_;exact A0.ret ⟨_,by rw[results8];rfl,N2 _ _⟩
abbrev FL:=[0,1,4,5,7,8,11,12,13,14]
theorem js(p:Prog)(h:p.Sm)(nm:A3)(I:Mf p nm p.decls=[]):Ab prog 312 [.A8 (D4 p) 0,Bo nm] (.d (.map [])):=by have E:=lh p h nm;rw[I]at E;refine cB func312 ?_;refine sR FL ?_;refine sR FL ?_;refine kC E FL λJ u1=>?_;refine bA (A0.ii ([]:List Param) (X:=Unit) (λj _=>[(0,.A8 (D4 p) 0),(5,.mp 8),(11,.d (.slice (Aw []))),(12,A6 ([]:List Param).length),(13,A6 j)]) (λ_ _=>[(8,.map [])]) (λ_ _=>True) () trivial sS sB ?_ λ_ _ _ hd=>by simp at hd);intro _ _;refine Ak B1 FL ?_;refine A0.stop rfl ?_;simp only[Aa,Af,Av];refine u1 _ _<|sR FL ?_;exact aR
theorem F5t:Ci prog 313 [.d (.map [])] [] (.acc 0) [(0,.rows 1 [])]:=by have:=QX [] (by simp) (by simp) (by simp);simpa [Ix,Hz,Bq]using this
abbrev RI:=[0,1,2,4,5,6,7,8,11,15,18,26]
theorem sw(p:Prog)(h:p.Sm)(nm:A3)(I:Mf p nm p.decls=[]):Ab prog 281 [Cs p,Bo nm] (Cm []):=by have E:=js p h nm I;have hs:=F5t;refine cB func281 ?_;refine sR RI ?_;refine sC (zM p h) RI ?_;refine sR RI ?_;refine jA RI [15] (by decide +kernel) λK z=>?_;refine ev ?_;refine cc E ?_;refine⟨_,_,_,_,_,rfl,hs,?_⟩;(try refine ev ?_);apply z;refine sK λJ u1=>bA (A0.loop (X:=Unit) (λx=>[(5,.A8 (D4 p) 0),(6,.mp 11),(7,.acc 15)]) (λx=>[(11,.map []),(15,.rows 1 [])]) (λ_=>True) (λ_=>0) () trivial sS sB ?_);intro _ _;refine kR RI λL u2=>?_;refine sE ?_;apply u1;refine vB 11 rfl<|sC hs.pub RI ?_;exact aR
abbrev cM:=[0,1,4,5,6,7,8,9,15,27]
theorem F9j(s:A3):Ab prog 280 [Cm [],Bo s] (.tuple [A6 0,Ar false]):=by refine cB func280 ?_;refine sR cM ?_;refine sR cM ?_;refine sR cM<|sK λE u1=>?_;refine bA (A0.loop (X:=Unit) (λx=>[(0,Cm []),(1,Bo s),(6,A6 0),(7,A6 0),(8,A6 0)]) (λ_=>[]) (λ_=>True) (λ_=>0) () trivial sS sB ?_);intro _ _;refine Ag B1 cM λI u2=>?_;refine sE ?_;apply u1;refine Ak B1 cM ?_;exact aR
theorem F5h(p:Prog)(h:p.Sm)(d:Decl)(I:Mf p d.name p.decls=[]):Ab prog 223 [.A8 [Cz p] 0,.A8 (Am d) 0] (Cw none):=by
 have hp:=fR p h;have hr:Ab prog 224 [Cs p,Bo d.name] (Ar false):=by have J:=sw p h d.name I;have L:=F9j d.name;refine cB func224 ?_;refine sR [0,1,2,4,6] ?_;refine sV [0,1,2,4,6] λK z=>?_;refine cc J ?_;refine cc L ?_;apply z;refine sR [0,1,2,4,6] ?_;exact aR
 have E:=tK false d.pos;simp only[Kh,Iu,Gi]at E;generalize(none:Option Int)=o at*;refine cB func223 ?_;refine sR [0,1,2] ?_;refine sG [0,1,2] [] 7 [] λK z=>?_;refine ev ?_;refine cc hp.ptr ?_;refine cc hr ?_;refine cc E ?_;apply z;exact A0.ret ⟨_,by rw[results223];rfl,N2 _ _⟩
theorem zt:Pp Gw=true:=by decide +kernel
theorem G7z:Pp MK=false:=by decide +kernel
theorem ow:Ab prog 8 [Cs Gw] (Cw none):=by
 have hp:=oA Gw nO;have hT:NC Gw t24:=⟨rfl,by decide +kernel⟩;have J:(⟨Gw,false,[],[]⟩:Cd).Sm:=⟨hp.sm,by simp,by simp,by simp,by simp⟩;have I:t24.Sm:=.mk _ _ _ (by decide) (by simp) (by simp);have L:l24.Sm:=hp.sm.main.kids.2 _ (by simp[Gw,Ex.kids]);have f0:=vH ⟨Gw,false,[],[]⟩ l24 L I (j:=3) rfl (.inl (.inr rfl)) rfl (fi ⟨Gw,false,[],[]⟩ J rfl l24 L rfl hT.2 (by decide +kernel) (by decide +kernel) λi k f V _=>by simp[l24,Ex.kids]at V);have f1:=vH ⟨Gw,false,[],[]⟩ Gw.main hp.sm.main I (j:=5) rfl (.inr ⟨.inr (.inr rfl),by decide⟩) rfl (y5 ⟨Gw,false,[],[]⟩ J rfl Gw.main rfl hT.2 (k:=l24) rfl f0);refine rY Gw hp.sm (Prog.Ru Gw nO) zt (sa Gw hp (λj d hd=>?_) (λd hd=>?_) f1)
 .have E:=hp.sm.decls.2 d (Bs hd)
  match j with
  |0 =>simp[Gw]at hd;subst hd;exact MV Gw hp.sm (j:=0) rfl rfl (λh=>by simp at h) λ_=>cT Gw hp.sm _ (by simp) _ ⟨E,rfl,rfl,λ_=>⟨λf U=>(Eh U).elim,rfl,F5h Gw hp.sm _ (by decide +kernel)⟩,λh=>by simp at h⟩
  |1 =>
   simp[Gw]at hd;subst hd;exact MV Gw hp.sm (j:=1) rfl rfl (λh=>by simp at h) λ_=>cT Gw hp.sm _ (by simp[Gw,sm]) _ ⟨E,rfl,by decide +kernel,λh=>by simp at h,λ_=>⟨by simp,λs hs=>by have O:=E.sigs.2 s hs;simp at hs;subst hs;exact⟨O,rfl,by simp,hT,rfl⟩⟩⟩
  |j+2=>simp[Gw]at hd
 refine so Gw d ?_;simp[Gw]at hd;rcases hd with rfl|rfl <;> simp
theorem vr:Ab prog 4 [] (Ar true):=by have hp:=oA Gw nO;have hq:=oA MK iq;have lp:=Prog.Ru Gw nO;have U:=ow;have V:=pz MK hq.sm (Prog.Ru MK iq) G7z;have E:=yz 0 0;have I:=H6w Gw hp.sm [73] (by decide);have L:=o5 [[109]] [[109]];have Z:=Oi Gw hp.sm [84] [73] (by decide) (by decide);have W:=Oi Gw hp.sm [84] [84] (by decide) (by decide);have J:=H3j Gw lp hp.sm;have O:=o5 [[73]] [[73]];rw[G0z]at I;rw[G7w]at Z;rw[bz]at W;rw[F6b]at J;rw[Bn rfl]at E L O;simp only[Cw,Hu]at U V E;refine cB func4 ?_;refine sR [0,1,2,3,4] ?_;refine sR [0,1,2,3,4] ?_;refine sR [0,1,2,3,4] ?_;refine sR [0,1,2,3,4] ?_;refine sR [0,1,2,3,4] ?_;refine sV [0,1,2,3,4] λK z=>?_;refine cc U ?_;refine cc V ?_;refine cc E ?_;refine cc I ?_;refine cc L ?_;refine cc Z ?_;refine cc W ?_;refine cc J ?_;refine cc O ?_;apply z;exact aR
theorem fS:∀{l:List (Option Int)},L8 l=none->∀y,y∈l->y=none
 |[],_=>by simp
 |some q::l,h=>by rw[L8]at h;cases h
 |none::l,h=>by rw[L8]at h;intro y hy;rcases Ay.1 hy with rfl|hy;rfl;exact fS h y hy
theorem ti{b:Bool}{n:Int}(h:Kh b n=none):b=false:=by
 cases b with
 |false=>rfl
 |true=>simp[Kh]at h
theorem pn{p:Prog}{env:List Aj}:∀{l:List A4} {pre:List A3},Pu p env pre l=none->(l.map (·.name)).Nodup/\∀f,f∈l->f.name∉pre
 |[],_,_=>by simp
 |f::fs,pre,h=>by rw[Pu]at h;split at h;cases h;rename_i I;split at h;cases h;obtain⟨a,b⟩:=pn h;refine⟨Vm.2 ⟨λJ=>?_,a⟩,λg hg=>?_⟩;obtain⟨g,hg,e⟩:=Ap.1 J;exact b g hg (by simp[e]);rcases Ay.1 hg with rfl|hg;exact I;exact λE=>b g hg (by simp[E])
structure pO(q:Prog):Prop where
 types:∀t,t∈Lj q->t.args=[]
 decl:∀d,d∈q.decls->d.A1=[]/\d.vars=[]/\d.sig.A1=[]/\(∀y,y∈B3 d.body->y.targs=[])/\∀s,s∈d.sigs->s.A1=[]
 main:∀y,y∈B3 q.main->y.targs=[]
theorem fD{q:Prog}(h:Pp q=true):pO q:=by unfold Pp Ra Ku at h;simp only[Bh,Dz,Di,Wu]at h;refine⟨h.1,λd hd=>?_,h.2.2⟩;have:=h.2.1 d hd;unfold Qf Ku Rm at this;simp only[Bh,Dz,Di,Wu]at this;obtain⟨J,I,E⟩:=this;exact⟨Wu.1 (by omega),Wu.1 (by omega),Wu.1 (by omega),I,E⟩
theorem EP{q:Prog}{d:Decl}(hd:d∈q.decls){t:Ty}(h:t∈X6 d):t∈Lj q:=CW _ (P4.2 ⟨d,hd,h⟩)
theorem zB{q:Prog}{e:Ex}(J:∀t,t∈Nc e->t.args=[])(I:∀y,y∈B3 e->y.targs=[]):BG e:=λy E =>⟨λk=>J _ (P4.2 ⟨y,E,by unfold Wi;rw[A7 k];simp⟩),I y E⟩
theorem yk{q:Prog}{w:A4}(hs:w.Sm)(E:w.A1=[])(ht:∀t,t∈Lw w->t.args=[])(hr:Iw q [] w=none):jM q w:=by
 unfold Iw at hr;rw[E,show Pn q [] []=none from rfl]at hr;simp only[Fv]at hr;cases hp:Kc q [] [] w.params with
 |some n=>rw[hp]at hr;cases hr
 |none =>rw[hp]at hr;exact⟨hs,E,λf I=>⟨ht _ (by unfold Lw H5;simp only[Bj,Ap];exact .inl (.inr ⟨f,I,rfl⟩)),nM hp f I⟩,⟨ht _ (by unfold Lw;simp),hr⟩,hp⟩
section
variable {q:Prog} (h:q.Fit) (hp:Pp q=true) (ht:(Yd q false).bad=false)
include h hp ht
theorem mO{i:Nat}{d:Decl}(hd:q.decls[i]?=some d):cK q (q.decls.take i) d=none/\(Wy q false d).bad=false:=by have E:=tV (l:=q.decls) (i:=0) ht i d hd;rw[Kf]at E;have I:=H8f q h.len i d hd;rw[E.1]at I;unfold JR at I;rw[A5 (by omega),Ic,hd]at I;exact⟨I,E.2⟩
theorem rT{i:Nat}{d:Decl}(hd:q.decls[i]?=some d):Vf d=true:=by
 have E:=(mO h hp ht hd).1;unfold cK at E;cases I:Vf d with
 |true=>rfl
 |false=>rw[I,A7 rfl]at E;cases E
theorem vb{i:Nat}{d:Decl}(hd:q.decls[i]?=some d)(k3:d.kind=3):wK q (q.decls.take i) d:=by
 have O:=Bs hd;obtain⟨f1,f2,f3,_,_⟩:=(fD hp).decl d O;have L:=(mO h hp ht hd).1;unfold cK at L;rw[rT h hp ht hd,A5 (by simp),A7 k3]at L;unfold PQ at L;have J:=fS L;have U:=J _ (GG ..);have g3:=ti (J (Kh (_:Bool) d.pos) (by simp only[Ay];exact .inr (.inr (.inl rfl))));have Z:=J (Iw q (Fq q d) d.sig) (by simp);have W:=J ((d.sig.params.find? λf=>decide (f.name=d.recv)).map (·.pos)) (by simp);unfold xH at U;split at U;cases U;rename_i hn;have V:kindOf q d.name=1:=Classical.byContradiction λE=>hn (.inl E);have I:Dm q d.name=[]:=by have:d.vars.length=(Dm q d.name).length:=Classical.byContradiction λE=>hn (.inr E);rw[f2]at this;exact Wu.1 this.symm
 rw[dN I]at Z;simp only[Option.map_eq_none_iff,List.find?_eq_none,Di]at W;exact⟨h.sm.decls.2 d O,f2,I,V,g3,yk (h.sm.decls.2 d O).sig f3 (λt E=>(fD hp).types t (EP O (by unfold X6 Rz;rw[A7 k3];simp only[Bj];exact .inr (.inl E)))) Z,W⟩
theorem F9o{i:Nat}{d:Decl}(hd:q.decls[i]?=some d)(k3:¬d.kind=3):YT q (q.decls.take i) d:=by have J:=Bs hd;obtain⟨f1,f2,f3,_,f5⟩:=(fD hp).decl d J;have O:=(mO h hp ht hd).1;unfold cK at O;rw[rT h hp ht hd,A5 (by simp),A5 k3]at O;unfold mQ at O;have I:=fS O;refine⟨h.sm.decls.2 d J,f1,ti (I _ (GG ..)),λk1=>?_,λk1=>?_⟩;rw[A7 k1]at I;have E:=I (Kc q d.A1 [] d.fields) (by simp);have Z:=I (Kh (decide (d.name∈T6 q d.name)) d.pos) (by simp);have V:=F4k QX q h.sm d;rw[Z]at V;rw[f1]at E;exact⟨λf U=>⟨(fD hp).types _ (EP J (by unfold X6 H5;simp only[Bj,Ap];exact .inl (.inl (.inr ⟨f,U,rfl⟩)))),nM E f U⟩,E,V⟩;rw[A5 k1]at I;have E:=I (Pu q d.A1 [] d.sigs) (by simp);rw[f1]at E;exact⟨(pn E).1,λw L=>yk ((h.sm.decls.2 d J).sigs.2 w L) (f5 w L) (λt W=>(fD hp).types t (EP J (by unfold X6 Lk;simp only[Bj,P4];exact .inl (.inr ⟨w,L,W⟩)))) (yV E w L)⟩
theorem F7w{d:Decl}(O:d∈q.decls):On q d:=λk3=>by
 obtain⟨i,hd⟩:=Lx O;obtain⟨_,_,_,f4,_⟩:=(fD hp).decl d O;have L:=vb h hp ht hd k3;have E:=(mO h hp ht hd).2;unfold Wy at E;rw[A7 k3]at E;unfold P5 at E;have I:(Da (Hv q false d) d.body).2.bad=false/\Cr q [] (Da (Hv q false d) d.body).1 d.sig.result=true:=by
  have J:(Hv q false d).env=[]:=by show Fq q d++d.sig.A1=[];rw[dN L.on,L.sig.A1];rfl
  rw[J]at E;split at E;cases E;grind[Hv]
 exact⟨⟨_,L⟩,zB (q:=q) (λt U=>(fD hp).types t (EP O (by unfold X6 Rz;rw[A7 k3];simp only[Bj];exact .inr (.inr U)))) f4,_,sL I.1,I.2⟩
theorem G9c(L:q.Le):Ab prog 8 [Cs q] (Cw none):=by have I:(⟨q,false,[],[]⟩:Cd).Sm:=⟨h.sm,by simp,by simp,by simp,by simp⟩;have E:=sL (bS (l:=q.decls) (i:=0) ht);refine rY q h.sm L hp (sa q h (λj d hd=>xy q h.sm hd (rT h hp ht hd) (vb h hp ht hd) (F9o h hp ht hd)) (λd hd=>G1h q h.sm d (h.sm.decls.2 d hd) (h.two d hd) (h.par d hd) (F7w h hp ht hd)) (QZ ⟨q,false,[],[]⟩ I rfl q.main _ h.sm.main (zB (q:=q) (λt J=>(fD hp).types t (List.mem_append_right _ J)) (fD hp).main) E))
end
end Go.iA
