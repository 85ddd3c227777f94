import Derived.Test.YtoajimpjknbnoaaGreatDoorKV05
import Derived.Test.YtoajimpjknbnoaaGreatDoorKDr2
set_option linter.all false
set_option maxHeartbeats 2000000
set_option maxRecDepth 100000
namespace Go.iA
open Go Go.Proofs Tryz
structure Be where
 on:Ty
 name:A3
 targs:List Ty
structure Ao where
 types:List Ty
 calls:List Be
 Dw:Bool
def Fp(c:Be):List D:=[.str c.on.name,.slice (Au c.on.args),.int .i64 c.on.pos,.str c.name,.slice (Au c.targs)]
def Nt(l:List Be):List (List D):=l.map Fp
abbrev caS(c:Be):List SV:=[.d (.str c.on.name),.d (.slice (Au c.on.args)),.d (.int .i64 c.on.pos),.d (.str c.name),.d (.slice (Au c.targs))]
abbrev caV(c:Be):SV:=.agg (caS c)
abbrev K9(s:Ao):List SV:=[.d (.slice (Au s.types)),.d (.slice (Nt s.calls)),.d (.bool s.Dw)]
abbrev Ks(s:Ao):SV:=.agg (K9 s)
def Eb(l:List Be):(Nt l).length=l.length:=by simp[Nt]
def Jw{l:List Be}{i:Nat}{c:Be}(h:l[i]?=some c):(Nt l)[i]?=some (Fp c):=by simp[Nt,h]
def vK(l:List Be):Nt l=l.map Fp:=rfl
structure Be.Sm(c:Be):Prop where
 on:c.on.Sm
 name:c.name.length<=60000000*sm
 targs:c.targs.length<=sm/\∀t,t∈c.targs->t.Sm
structure Ao.Sm(s:Ao):Prop where
 types:s.types.length<=sm/\∀t,t∈s.types->t.Sm
 calls:s.calls.length<=sm/\∀t,t∈s.calls->t.Sm
def E8(a b:Be):Int:=if Er a.on b.on=0 then(if Bw a.name b.name=0 then Er (.mk [] a.targs 0) (.mk [] b.targs 0)else Bw a.name b.name)else Er a.on b.on
abbrev Ph:=[0,1,2,3,4,5,12,19]
def ou(a:Be)(J:a.Sm)(b:Be):Ab prog 123 [caV a,caV b] (A6 (E8 a b)):=by
 have O:=kW a.on J.on b.on;have U:=eN a.name b.name;have V:=kW (.mk [] a.targs 0) (.mk _ _ _ (by simp) J.targs.1 J.targs.2) (.mk [] b.targs 0);unfold E8;generalize Er (.mk [] a.targs 0) (.mk [] b.targs 0)=z at*;generalize Er a.on b.on=x at*;generalize Bw a.name b.name=y at*;by_cases I:x=0
 .subst I;rw[A7 rfl];by_cases L:y=0;subst L;rw[A7 rfl];refine cB func123 ?_;refine sR Ph ?_;refine sC O Ph ?_;refine kR Ph λE u1=>?_;refine eA rfl ?_;(refine lV Ph λK z=>?_;refine cc U ?_;apply z;try simp only[Aa,Af,Av]);apply u1;refine kR Ph λE u1=>?_;refine eA rfl ?_;(refine lV Ph λK z=>?_;refine cc V ?_;apply z;try simp only[Aa,Af,Av]);refine u1 _ _<|sR Ph ?_;exact aR
  rw[A5 L];refine cB func123 ?_;refine sR Ph ?_;refine sC O Ph ?_;refine kR Ph λE u1=>?_;refine eA rfl ?_;(refine lV Ph λK z=>?_;refine cc U ?_;apply z;try simp only[Aa,Af,Av]);apply u1;refine Ag L Ph λE u1=>?_;refine dA rfl (cA (u1 _ _ ?_));refine sR Ph ?_;exact aR
 rw[A5 I];refine cB func123 ?_;refine sR Ph ?_;refine sC O Ph ?_;refine Ag I Ph λE u1=>?_;refine dA rfl (cA (u1 _ _ ?_));refine Ag I Ph λE u1=>?_;refine dA rfl (cA (u1 _ _ ?_));refine sR Ph ?_;exact aR
def Gj{α:Type}(cmp:α->α->Int)(x:α):List α->Bool->List α->Option (List α)
 |[],done,out=>some (if done then out else out++[x])
 |t::ts,done,out=>if cmp x t=0 then none else if cmp x t<0/\done=false then Gj cmp x ts true (out++[x,t])else Gj cmp x ts done (out++[t])
def Je{α:Type}(cmp:α->α->Int)(l:List α)(x:α):List α:=(Gj cmp x l false []).getD l
def Hc(s:Ao)(x:Ty):Ao:=if 100<s.types.length then{ s with Dw:=true } else{ s with types:=Je Er s.types x }
def Hi(s:Ao)(x:Be):Ao:=if 100<s.calls.length then{ s with Dw:=true } else{ s with calls:=Je E8 s.calls x }
abbrev H8:=[0,1,2,3,4,5,6,7,8,12,19,30,37,51]
def G0o(s:Ao)(hs:s.Sm)(x:Ty)(hx:x.Sm)(W:∀t,Ab prog 122 [.agg (Pt x),.agg (Pt t)] (A6 (Er x t))):Ab prog 46 [Ks s,.agg (Pt x)] (Ks (Hc s x)):=by
 unfold Hc;have a8:=hs.types.1;by_cases O:100<s.types.length
 .rw[A7 O];have hb:(s.types.length:Int) > 100:=by omega
  refine cB func46 ?_;refine sR H8 ?_;refine Dq hb @Eb H8 λU u1=>?_;refine eA rfl<|sR H8 ?_;refine sR H8 ?_;exact aR
 rw[A5 O];have hb:¬(s.types.length:Int) > 100:=by omega
 have hR:∃R,Gj Er x s.types false []=R:=⟨_,rfl⟩;obtain⟨R,hR⟩:=hR;have Z:Je Er s.types x=R.getD s.types:=by unfold Je;rw[hR]
 rw[Z];refine cB func46 ?_;refine sR H8 ?_;refine Dq hb @Eb H8 λU u1=>?_;refine dA rfl (cA (u1 _ _ ?_));refine sR H8 ?_;refine A0.pp 5 3 5 rfl<|sR H8 ?_;refine kR H8 λU u1=>?_;refine bA (A0.loop (X:=Nat × Bool × List Ty) (λz=>[(2,.box 2 0),(3,.box 3 0),(4,.box 4 0),(5,.acc 5),(6,Ar z.2.1),(7,A6 z.1)]) (λz=>[(2,.cells (K9 s)),(3,.cells (Pt x)),(4,.cells [.d .nil,.d .nil,.d (.bool false)]),(5,.rows 3 (Au z.2.2))]) (λz=>z.1<=s.types.length/\Gj Er x (s.types.drop z.1) z.2.1 z.2.2=R/\z.2.2.length<=z.1+1/\(z.2.1=false->z.2.2.length<=z.1)) (λz=>s.types.length - z.1) (0,false,[]) ⟨Xa _,hR,by simp,by simp⟩ sS (by simp[ble,A9,Cq]) ?_)
 rintro⟨i,done,out⟩ ⟨hi,E,a4,a0⟩;simp only at hi E a4 a0 |-;have a7:True:=trivial;by_cases a5:i=s.types.length
 .have a3:¬(i:Int)<(s.types.length:Int):=by omega
  rw[a5,Dk,Gj]at E;refine Dq a3 @Eb H8 λL u2=>?_;refine sE ?_;apply u1;refine sK λU u1=>?_;cases done with
  |true =>simp at E;subst E;refine sR H8 ?_;refine dA rfl (cA (u1 _ _ ?_));refine sR H8 ?_;refine sR H8 ?_;exact aR
  |false =>
   simp at E;subst E;refine sR H8 ?_;refine eA rfl ?_;(refine lQ H8 λK z=>?_;refine Bb @Eb ?_;refine⟨by simp,by unfold lim sm at*;omega,?_⟩;(try refine Bb @Eb ?_);apply z;try simp only[Aa,Af,Av]);apply u1;refine sR H8 ?_;refine sR H8 ?_;have a2:Ks { s with types:=(some (out++[x])).getD s.types }=.agg [.d (.slice (Au out++[Bf x])),.d (.slice (Nt s.calls)),.d (.bool s.Dw)]:=by simp[Cq]
   rw[a2];exact aR
 .have a1:(i:Int)<(s.types.length:Int):=by omega
  obtain⟨t,ht⟩:∃t,s.types[i]?=some t:=⟨_,Bu (by omega)⟩;have hd:s.types.drop i=t::s.types.drop (i+1):=by
   rw[H7 (by omega)]
   congr 1
   have:=Az.1 ht;exact this.2
  rw[hd,Gj]at E;have hc:=W t;generalize Er x t=c at*;refine Dq a1 @Eb H8 λL u2=>?_;refine gI u2 ?_;refine sK λL u2=>bA ?_;refine sG H8 [] 6 [] λK z=>?_;refine Bb @Bf.eq_1 ?_;refine C0 @Bf.eq_1 (Fs ht) ?_;refine E0 @Bf.eq_1 hc ?_;apply z;refine sK λV J=>?_;by_cases h0:c=0;subst h0;rw[A7 rfl]at E;subst E;refine sR H8 ?_;refine eA rfl<|sR H8 ?_;exact aR
  rw[A5 h0]at E;refine Ak h0 H8 ?_;refine dA rfl (cA (J _ _ ?_));refine sK λV J=>?_;by_cases hn:c<0/\done=false;obtain⟨I,rfl⟩:=hn;rw[A7 ⟨I,rfl⟩]at E;refine Ak I H8 ?_;refine eA rfl ?_;refine sQ H8 λK z=>?_;refine Bb @Eb ?_;refine⟨by simp,by unfold lim sm at*;omega,?_⟩;(try refine Bb @Eb ?_);apply z;(refine lV H8 λK z=>?_;apply z;try simp only[Aa,Af,Av]);refine J _ _ ?_;(refine lQ H8 λK z=>?_;refine Nw @Bf.eq_1 @Eb Jz ?_;refine S5 @Bf.eq_1 @Eb Jz (Fs ht) ?_;refine⟨by simp,by unfold lim sm at*;omega,?_⟩;(try refine Nw @Bf.eq_1 @Eb Jz ?_);apply z;try simp only[Aa,Af,Av]);apply u2;(refine lV H8 λK z=>?_;refine cl ?_;apply z;try simp only[Aa,Af,Av]);exact⟨(i+1,true,out++[x,t]),⟨by simp only;omega,E,by grind,by simp⟩,by simp only;omega,sS,by simp[ble,A9,Cq,Bf]⟩
  .rw[A5 hn]at E;have a6:(decide (c<0) && !done)=false:=by grind
   cases done with
   |true =>
    by_cases I:c<0;refine Ak I H8 ?_;refine dA rfl (cA (J _ _ ?_));(refine lQ H8 λK z=>?_;refine Nw @Bf.eq_1 @Eb Jz ?_;refine S5 @Bf.eq_1 @Eb Jz (Fs ht) ?_;refine⟨by simp,by unfold lim sm at*;omega,?_⟩;(try refine Nw @Bf.eq_1 @Eb Jz ?_);apply z;try simp only[Aa,Af,Av]);apply u2;(refine lV H8 λK z=>?_;refine cl ?_;apply z;try simp only[Aa,Af,Av]);exact⟨(i+1,true,out++[t]),⟨by simp only;omega,E,by simp;omega,by simp⟩,by simp only;omega,sS,by simp[ble,A9,Cq,Bf]⟩;refine Ak I H8 ?_;refine dA rfl (cA (J _ _ ?_));(refine lQ H8 λK z=>?_;refine Nw @Bf.eq_1 @Eb Jz ?_;refine S5 @Bf.eq_1 @Eb Jz (Fs ht) ?_;refine⟨by simp,by unfold lim sm at*;omega,?_⟩;(try refine Nw @Bf.eq_1 @Eb Jz ?_);apply z;try simp only[Aa,Af,Av]);apply u2;(refine lV H8 λK z=>?_;refine cl ?_;apply z;try simp only[Aa,Af,Av]);exact⟨(i+1,true,out++[t]),⟨by simp only;omega,E,by simp;omega,by simp⟩,by simp only;omega,sS,by simp[ble,A9,Cq,Bf]⟩
   |false =>
    have I:¬c<0:=λh=>hn ⟨h,rfl⟩;refine Ak I H8 ?_;refine dA rfl (cA (J _ _ ?_));(refine lQ H8 λK z=>?_;refine Nw @Bf.eq_1 @Eb Jz ?_;refine S5 @Bf.eq_1 @Eb Jz (Fs ht) ?_;refine⟨by simp,by unfold lim sm at*;omega,?_⟩;(try refine Nw @Bf.eq_1 @Eb Jz ?_);apply z;try simp only[Aa,Af,Av]);apply u2;(refine lV H8 λK z=>?_;refine cl ?_;apply z;try simp only[Aa,Af,Av]);exact⟨(i+1,false,out++[t]),⟨by simp only;omega,E,by grind,λ_=>by grind⟩,by simp only;omega,sS,by simp[ble,A9,Cq,Bf]⟩
abbrev H6:=[0,1,2,3,4,5,6,7,8,12,19,30,37,51]
def F6d(s:Ao)(hs:s.Sm)(x:Be)(hx:x.Sm)(W:∀t,Ab prog 123 [.agg (caS x),.agg (caS t)] (A6 (E8 x t))):Ab prog 47 [Ks s,.agg (caS x)] (Ks (Hi s x)):=by
 unfold Hi;have a8:=hs.calls.1;by_cases O:100<s.calls.length
 .rw[A7 O];have hb:(s.calls.length:Int) > 100:=by omega
  refine cB func47 ?_;refine sR H6 ?_;refine Dq hb @Eb H6 λU u1=>?_;refine eA rfl<|sR H6 ?_;refine sR H6 ?_;exact aR
 rw[A5 O];have hb:¬(s.calls.length:Int) > 100:=by omega
 have hR:∃R,Gj E8 x s.calls false []=R:=⟨_,rfl⟩;obtain⟨R,hR⟩:=hR;have Z:Je E8 s.calls x=R.getD s.calls:=by unfold Je;rw[hR]
 rw[Z];refine cB func47 ?_;refine sR H6 ?_;refine Dq hb @Eb H6 λU u1=>?_;refine dA rfl (cA (u1 _ _ ?_));refine sR H6 ?_;refine A0.pp 5 5 5 rfl<|sR H6 ?_;refine kR H6 λU u1=>?_;refine bA (A0.loop (X:=Nat × Bool × List Be) (λz=>[(2,.box 2 0),(3,.box 3 0),(4,.box 4 0),(5,.acc 5),(6,Ar z.2.1),(7,A6 z.1)]) (λz=>[(2,.cells (K9 s)),(3,.cells (caS x)),(4,.cells [.d .nil,.d .nil,.d (.bool false)]),(5,.rows 5 (Nt z.2.2))]) (λz=>z.1<=s.calls.length/\Gj E8 x (s.calls.drop z.1) z.2.1 z.2.2=R/\z.2.2.length<=z.1+1/\(z.2.1=false->z.2.2.length<=z.1)) (λz=>s.calls.length - z.1) (0,false,[]) ⟨Xa _,hR,by simp,by simp⟩ sS (by simp[ble,A9,vK]) ?_)
 rintro⟨i,done,out⟩ ⟨hi,E,a4,a0⟩;simp only at hi E a4 a0 |-;have a7:True:=trivial;by_cases a5:i=s.calls.length
 .have a3:¬(i:Int)<(s.calls.length:Int):=by omega
  rw[a5,Dk,Gj]at E;refine Dq a3 @Eb H6 λL u2=>?_;refine sE ?_;apply u1;refine sK λU u1=>?_;cases done with
  |true =>simp at E;subst E;refine sR H6 ?_;refine dA rfl (cA (u1 _ _ ?_));refine sR H6 ?_;refine sR H6 ?_;exact aR
  |false =>
   simp at E;subst E;refine sR H6 ?_;refine eA rfl ?_;(refine lQ H6 λK z=>?_;refine Bb @Eb ?_;refine⟨by simp,by unfold lim sm at*;omega,?_⟩;(try refine Bb @Eb ?_);apply z;try simp only[Aa,Af,Av]);apply u1;refine sR H6 ?_;refine sR H6 ?_;have a2:Ks { s with calls:=(some (out++[x])).getD s.calls }=.agg [.d (.slice (Au s.types)),.d (.slice (Nt out++[Fp x])),.d (.bool s.Dw)]:=by simp[vK]
   rw[a2];exact aR
 .have a1:(i:Int)<(s.calls.length:Int):=by omega
  obtain⟨t,ht⟩:∃t,s.calls[i]?=some t:=⟨_,Bu (by omega)⟩;have hd:s.calls.drop i=t::s.calls.drop (i+1):=by
   rw[H7 (by omega)]
   congr 1
   have:=Az.1 ht;exact this.2
  rw[hd,Gj]at E;have hc:=W t;generalize E8 x t=c at*;refine Dq a1 @Eb H6 λL u2=>?_;refine gI u2 ?_;refine sK λL u2=>bA ?_;refine sG H6 [] 6 [] λK z=>?_;refine Bb @Fp.eq_1 ?_;refine C0 @Fp.eq_1 (Jw ht) ?_;refine E0 @Fp.eq_1 hc ?_;apply z;refine sK λV J=>?_;by_cases h0:c=0;subst h0;rw[A7 rfl]at E;subst E;refine sR H6 ?_;refine eA rfl<|sR H6 ?_;exact aR
  rw[A5 h0]at E;refine Ak h0 H6 ?_;refine dA rfl (cA (J _ _ ?_));refine sK λV J=>?_;by_cases hn:c<0/\done=false;obtain⟨I,rfl⟩:=hn;rw[A7 ⟨I,rfl⟩]at E;refine Ak I H6 ?_;refine eA rfl ?_;refine sQ H6 λK z=>?_;refine Bb @Eb ?_;refine⟨by simp,by unfold lim sm at*;omega,?_⟩;(try refine Bb @Eb ?_);apply z;(refine lV H6 λK z=>?_;apply z;try simp only[Aa,Af,Av]);refine J _ _ ?_;(refine lQ H6 λK z=>?_;refine Nw @Fp.eq_1 @Eb Jz ?_;refine S5 @Fp.eq_1 @Eb Jz (Jw ht) ?_;refine⟨by simp,by unfold lim sm at*;omega,?_⟩;(try refine Nw @Fp.eq_1 @Eb Jz ?_);apply z;try simp only[Aa,Af,Av]);apply u2;(refine lV H6 λK z=>?_;refine cl ?_;apply z;try simp only[Aa,Af,Av]);exact⟨(i+1,true,out++[x,t]),⟨by simp only;omega,E,by grind,by simp⟩,by simp only;omega,sS,by simp[ble,A9,vK,Fp]⟩
  .rw[A5 hn]at E;have a6:(decide (c<0) && !done)=false:=by grind
   cases done with
   |true =>
    by_cases I:c<0;refine Ak I H6 ?_;refine dA rfl (cA (J _ _ ?_));(refine lQ H6 λK z=>?_;refine Nw @Fp.eq_1 @Eb Jz ?_;refine S5 @Fp.eq_1 @Eb Jz (Jw ht) ?_;refine⟨by simp,by unfold lim sm at*;omega,?_⟩;(try refine Nw @Fp.eq_1 @Eb Jz ?_);apply z;try simp only[Aa,Af,Av]);apply u2;(refine lV H6 λK z=>?_;refine cl ?_;apply z;try simp only[Aa,Af,Av]);exact⟨(i+1,true,out++[t]),⟨by simp only;omega,E,by simp;omega,by simp⟩,by simp only;omega,sS,by simp[ble,A9,vK,Fp]⟩;refine Ak I H6 ?_;refine dA rfl (cA (J _ _ ?_));(refine lQ H6 λK z=>?_;refine Nw @Fp.eq_1 @Eb Jz ?_;refine S5 @Fp.eq_1 @Eb Jz (Jw ht) ?_;refine⟨by simp,by unfold lim sm at*;omega,?_⟩;(try refine Nw @Fp.eq_1 @Eb Jz ?_);apply z;try simp only[Aa,Af,Av]);apply u2;(refine lV H6 λK z=>?_;refine cl ?_;apply z;try simp only[Aa,Af,Av]);exact⟨(i+1,true,out++[t]),⟨by simp only;omega,E,by simp;omega,by simp⟩,by simp only;omega,sS,by simp[ble,A9,vK,Fp]⟩
   |false =>
    have I:¬c<0:=λh=>hn ⟨h,rfl⟩;refine Ak I H6 ?_;refine dA rfl (cA (J _ _ ?_));(refine lQ H6 λK z=>?_;refine Nw @Fp.eq_1 @Eb Jz ?_;refine S5 @Fp.eq_1 @Eb Jz (Jw ht) ?_;refine⟨by simp,by unfold lim sm at*;omega,?_⟩;(try refine Nw @Fp.eq_1 @Eb Jz ?_);apply z;try simp only[Aa,Af,Av]);apply u2;(refine lV H6 λK z=>?_;refine cl ?_;apply z;try simp only[Aa,Af,Av]);exact⟨(i+1,false,out++[t]),⟨by simp only;omega,E,by grind,λ_=>by grind⟩,by simp only;omega,sS,by simp[ble,A9,vK,Fp]⟩
def MI(s:Ao)(hs:s.Sm)(x:Ty)(E:x.Sm):Ab prog 46 [Ks s,Ba x] (Ks (Hc s x)):=G0o s hs x E (λt=>kW x E t)
def oe(s:Ao)(hs:s.Sm)(x:Be)(E:x.Sm):Ab prog 47 [Ks s,caV x] (Ks (Hi s x)):=F6d s hs x E (λt=>ou x E t)
open Go Go.Proofs Go.Sort Tryz
def T3(a b c:Int):Prop:=(a<0->b<=0->c<0)/\(a<=0->b<0->c<0)/\(a=0->b=0->c=0)
def T3.lex{I J E L O U:Int}(h:T3 I J E)(k:T3 L O U):T3 (if I≠0 then I else L) (if J≠0 then J else O) (if E≠0 then E else U):=by obtain⟨h1,h2,h3⟩:=h;obtain⟨k1,k2,k3⟩:=k;by_cases V:I=0 <;> by_cases W:J=0 <;> by_cases Z:E=0 <;> simp only[V,W,Z,ne_eq,not_true,not_false_iff,Av,Gi] <;> refine⟨λ_ _=>?_,λ_ _=>?_,λ_ _=>?_⟩ <;> omega
def th(a b c:A3):T3 (Bw a b) (Bw b c) (Bw a c):=by refine⟨λE I=>?_,λE I=>?_,λE I=>?_⟩;by_cases h:Bw b c=0;rw[To]at h;rw[<-h];exact E;exact RM a b c E (by omega);by_cases h:Bw a b=0;rw[To]at h;rw[h];exact I;exact RM a b c (by omega) I;rw[To]at E I |-;rw[E,I]
def ka:∀l m n:List Ty,(∀t,t∈l->∀u v,T3 (Er t u) (Er u v) (Er t v))->T3 (Et l m) (Et m n) (Et l n)
 |[],[],[],_=>by simp[Et,T3]
 |[],[],_::_,_=>by simp[Et,T3]
 |[],_::_,[],_=>by simp[Et,T3]
 |[],_::_,_::_,_=>by simp[Et,T3]
 |_::_,[],[],_=>by simp[Et,T3]
 |_::_,[],_::_,_=>by simp[Et,T3]
 |_::_,_::_,[],_=>by simp only[Et];exact⟨λ_ h=>by omega,λ_ h=>by omega,λ_ h=>by omega⟩
 |x::xs,y::ys,z::E,h=>by rw[Et,Et,Et];exact(h x (by simp) y z).lex (ka xs ys E λt ht=>h t (by simp[ht]))
def LS(t:Ty):∀u v,T3 (Er t u) (Er u v) (Er t v):=by
 induction t using Ty.induct with
 |h t E =>
 intro u v;rw[DF,DF,DF];exact(th _ _ _).lex (ka _ _ _ E)
def kj:∀l m:List Ty,(∀t,t∈l->∀u,Er u t = - Er t u)->Et m l = - Et l m
 |[],[],_=>by simp[Et]
 |[],_::_,_=>by simp[Et]
 |_::_,[],_=>by simp[Et]
 |x::xs,y::ys,h=>by rw[Et,Et,h x (by simp) y,kj xs ys λt ht=>h t (by simp[ht])];by_cases e:Er x y=0 <;> simp[e]
def oT(t:Ty):∀u,Er u t = - Er t u:=by
 induction t using Ty.induct with
 |h t E =>
 intro u;rw[DF,DF,Zr t.name u.name,kj _ _ E];by_cases e:Bw t.name u.name=0 <;> simp[e]
def PJ(a b:Be):E8 a b=if Er a.on b.on≠0 then Er a.on b.on else if Bw a.name b.name≠0 then Bw a.name b.name else Er (.mk [] a.targs 0) (.mk [] b.targs 0):=by unfold E8;by_cases e:Er a.on b.on=0 <;> by_cases k:Bw a.name b.name=0 <;> simp[e,k]
def JS(a b c:Be):T3 (E8 a b) (E8 b c) (E8 a c):=by rw[PJ,PJ,PJ];exact(LS _ _ _).lex ((th _ _ _).lex (LS _ _ _))
theorem rO(a b:Be):E8 b a = - E8 a b:=by rw[PJ,PJ,oT a.on b.on,Zr a.name b.name,oT (.mk [] a.targs 0) (.mk [] b.targs 0)];by_cases e:Er a.on b.on=0 <;> by_cases k:Bw a.name b.name=0 <;> simp[e,k]
def wX(a:Be):E8 a a=0:=by have:=rO a a;omega
open Go Go.Proofs Tryz
open Go Go.Proofs Go.Sort Tryz
instance:Inhabited Be:=⟨⟨.mk [] [] 0,[],[]⟩⟩
def ccN(l:List Be)(i:Nat):Be:=(l[i]?).getD default
structure I4f(C:Ctx)(S:Nat->Prop)(w:World)(β:Names)(bx:Ac)(k:Nat)(l:List Be)(b:Nat)(enc:Nat->List Value):Prop where
 len:∀i,(enc i).length=5
 one:∀i,∀v∈enc i,v.oneCell'=true
 zero:enc l.length=[.string ⟨#[]⟩,.slice none 0 0,.int .i64 0,.string ⟨#[]⟩,.slice none 0 0]
 lt:b<w.heap.size
 holds:HoldsK enc 5 w b ((β k).off*5) (Array.range l.length)
 row:∀(m:Nat) (os:Array Obj) (dk:Array Nat) (i:Nat),An (all (sortWorldK enc 5 w b ((β k).off*5) m dk os)) (sortWorldK enc 5 w b ((β k).off*5) m dk os) β (caV (ccN l i)) (.agg (enc i).toArray)
 Ek:∀(m:Nat) (os:Array Obj) (dk:Array Nat) b' cs,qJ C.G.sy C.G.ra b' cs->∃ty fr,(sortWorldK enc 5 w b ((β k).off*5) m dk os).heap[b']?=some (.cells cs ty fr)
 inv:∀(m:Nat) (os:Array Obj) (dk:Array Nat),dk.size=l.length->Inv C S (sortWorldK enc 5 w b ((β k).off*5) m dk os) β ((k,.rows 5 (Nt (dk.toList.map (ccN l))))::Cu k bx)/\Cg S w S (sortWorldK enc 5 w b ((β k).off*5) m dk os)
end Go.iA
