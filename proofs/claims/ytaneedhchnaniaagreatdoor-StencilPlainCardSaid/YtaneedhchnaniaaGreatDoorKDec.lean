/- Data of the program's types are types, expressions, declarations, programs -/
import Derived.Test.YtaneedhchnaniaaGreatDoorKRead
import Derived.Test.YtaneedhchnaniaaGreatDoorKEnc
import Derived.Test.YtaneedhchnaniaaGreatDoorKTypes
namespace Go.Abs
set_option maxRecDepth 100000
set_option maxHeartbeats 1000000
set_option linter.all false
open Go Go.Proofs Tryz
variable {P:Program}
theorem A1z {T:TypeId} (E:P.underlying T=some .string):∀{n:Nat} {ds:List D},F9 P n T ds→∃s:A3,ds=[.str s]
 | 0,_,h=>by simp [F9] at h
 |n+1,_,h=>by rw [F9,E] at h;exact h
theorem A1t {T:TypeId} {k:IntKind} (E:P.underlying T=some (.int k)):∀{n:Nat} {ds:List D},F9 P n T ds→∃z,ds=[.int k z]
 | 0,_,h=>by simp [F9] at h
 |n+1,_,h=>by rw [F9,E] at h;exact h
theorem A2x {T e:TypeId} (E:P.underlying T=some (.slice e)):∀{n:Nat} {ds:List D},F9 P n T ds→∃m rows,n=m+1∧ds=[.slice rows]∧∀row,row∈rows→F9 P m e row
 | 0,_,h=>by simp [F9] at h
 |n+1,_,h=>by rw [F9,E] at h;obtain⟨rows,J,I⟩:=h;exact⟨n,rows,rfl,J,I⟩
theorem A3u {T:TypeId} {fs:Array Field} (E:P.underlying T=some (.struct fs)):∀{n:Nat} {ds:List D},F9 P n T ds→∃m,n=m+1∧Sc P m fs.toList ds
 | 0,_,h=>by simp [F9] at h
 |n+1,_,h=>by rw [F9,E] at h;exact⟨n,rfl,h⟩
theorem Zb {α:Type} {C:α→List D} {Q:List D→Prop} (h:∀row,Q row→∃x,row=C x):∀(rows:List (List D)),(∀row,row∈rows→Q row)→∃l:List α,rows=l.map C
 |[],_=>⟨[],rfl⟩
 |row::rows,hr=>by obtain⟨x,J⟩:=h row (hr row (by simp));obtain⟨l,I⟩:=Zb h rows fun r E=>hr r (by simp [E]);exact⟨x::l,by rw [J,I];rfl⟩
theorem A8x:∀(n:Nat) {ds:List D},F9 prog n 24 ds→∃t:Ty,ds=Bh t:=by
 intro n
 induction n using Nat.strongRecOn with
 |ind n L =>
 intro ds h;obtain⟨m,rfl,I⟩:=A3u underlying24 h;simp only [Sc] at I;obtain⟨a,_,rfl,R,_,b,_,rfl,J,_,c,_,rfl,O,_,rfl⟩:=I;obtain⟨s,rfl⟩:=A1z underlying9 R;obtain⟨k,rows,rfl,rfl,hr⟩:=A2x underlying22 J;obtain⟨z,rfl⟩:=A1t underlying3 O;obtain⟨l,rfl⟩:=Zb (C:=Bh) (fun row E=>L k (by omega) E) rows hr;exact⟨.mk s l z,by simp [Bh,Ty.name,Ty.args,Ty.pos,Cc]⟩
variable {n:Nat} {ds:List D}
theorem G5o (h:F9 prog n 22 ds):∃l:List Ty,ds=[.slice (Aq l)]:=by obtain⟨k,rows,rfl,rfl,hr⟩:=A2x underlying22 h;obtain⟨l,rfl⟩:=Zb (C:=Bh) (fun row E=>A8x k E) rows hr;exact⟨l,by rw [Cc]⟩
theorem G0v (h:F9 prog n 57 ds):∃l:List A3,ds=[.slice (C6 l)]:=by obtain⟨k,rows,rfl,rfl,hr⟩:=A2x underlying57 h;obtain⟨l,rfl⟩:=Zb (C:=fun s:A3=>[.str s]) (fun row E=>A1z underlying9 E) rows hr;exact⟨l,rfl⟩
theorem C7m:∀(n:Nat) {ds:List D},F9 prog n 41 ds→∃e:Ex,ds=Ce e:=by
 intro n
 induction n using Nat.strongRecOn with
 |ind n R =>
 intro ds h;obtain⟨m,rfl,I⟩:=A3u underlying41 h;simp only [Sc] at I;obtain⟨a,_,rfl,W,_,b,_,rfl,L,_,c,_,rfl,U,_,d,_,rfl,V,_,e,_,rfl,J,_,f,_,rfl,O,_,rfl⟩:=I;obtain⟨z,rfl⟩:=A1t underlying3 W;obtain⟨s,rfl⟩:=A1z underlying9 L;obtain⟨t,rfl⟩:=A8x m U;obtain⟨l,rfl⟩:=G5o V;obtain⟨k,rows,rfl,rfl,hr⟩:=A2x underlying39 J;obtain⟨q,rfl⟩:=A1t underlying3 O;obtain⟨ks,rfl⟩:=Zb (C:=Ce) (fun row E=>R k (by omega) E) rows hr;exact⟨.mk z s t l ks q,by simp [Ce,Bh,Ex.kind,Ex.name,Ex.type,Ex.targs,Ex.kids,Ex.pos,Lp]⟩
theorem G1i (h:F9 prog n 93 ds):∃e:Ak,ds=Ke e:=by obtain⟨m,rfl,E⟩:=A3u underlying93 h;simp only [Sc] at E;obtain⟨a,_,rfl,L,_,b,_,rfl,I,_,c,_,rfl,J,_,rfl⟩:=E;obtain⟨s,rfl⟩:=A1z underlying9 L;obtain⟨t,rfl⟩:=A8x m I;obtain⟨z,rfl⟩:=A1t underlying3 J;exact⟨⟨s,t,z⟩,rfl⟩
theorem G5h (h:F9 prog n 95 ds):∃e:Param,ds=Gc e:=by obtain⟨m,rfl,E⟩:=A3u underlying95 h;simp only [Sc] at E;obtain⟨a,_,rfl,L,_,b,_,rfl,I,_,c,_,rfl,J,_,rfl⟩:=E;obtain⟨s,rfl⟩:=A1z underlying9 L;obtain⟨t,rfl⟩:=A8x m I;obtain⟨z,rfl⟩:=A1t underlying3 J;exact⟨⟨s,t,z⟩,rfl⟩
theorem C9f (h:F9 prog n 54 ds):∃l:List Ak,ds=[.slice (Az l)]:=by obtain⟨k,rows,rfl,rfl,hr⟩:=A2x underlying54 h;obtain⟨l,rfl⟩:=Zb (C:=Ke) (fun row E=>G1i E) rows hr;exact⟨l,rfl⟩
theorem D6b (h:F9 prog n 55 ds):∃l:List Param,ds=[.slice (B5 l)]:=by obtain⟨k,rows,rfl,rfl,hr⟩:=A2x underlying55 h;obtain⟨l,rfl⟩:=Zb (C:=Gc) (fun row E=>G5h E) rows hr;exact⟨l,rfl⟩
theorem D4s (h:F9 prog n 59 ds):∃e:A5,ds=Eu e:=by obtain⟨m,rfl,E⟩:=A3u underlying59 h;simp only [Sc] at E;obtain⟨a,_,rfl,R,_,b,_,rfl,J,_,c,_,rfl,L,_,d,_,rfl,O,_,e,_,rfl,I,_,rfl⟩:=E;obtain⟨s,rfl⟩:=A1z underlying9 R;obtain⟨fs,rfl⟩:=C9f J;obtain⟨ps,rfl⟩:=D6b L;obtain⟨t,rfl⟩:=A8x m O;obtain⟨z,rfl⟩:=A1t underlying3 I;exact⟨⟨s,fs,ps,t,z⟩,rfl⟩
theorem E4d (h:F9 prog n 56 ds):∃l:List A5,ds=[.slice (B9 l)]:=by obtain⟨k,rows,rfl,rfl,hr⟩:=A2x underlying56 h;obtain⟨l,rfl⟩:=Zb (C:=Eu) (fun row E=>D4s E) rows hr;exact⟨l,rfl⟩
theorem G0q (h:F9 prog n 61 ds):∃e:Decl,ds=Bc e:=by obtain⟨m,rfl,I⟩:=A3u underlying61 h;simp only [Sc] at I;obtain⟨a,_,rfl,h1,_,b,_,rfl,L,_,c,_,rfl,U,_,d,_,rfl,Z,_,e,_,rfl,J,_,f,_,rfl,R,_,g,_,rfl,W,_,i,_,rfl,V,_,j,_,rfl,h9,_,k,_,rfl,E,_,rfl⟩:=I;obtain⟨z,rfl⟩:=A1t underlying3 h1;obtain⟨s,rfl⟩:=A1z underlying9 L;obtain⟨fs,rfl⟩:=C9f U;obtain⟨ps,rfl⟩:=D6b Z;obtain⟨ss,rfl⟩:=E4d J;obtain⟨r,rfl⟩:=A1z underlying9 R;obtain⟨vs,rfl⟩:=G0v W;obtain⟨O,rfl⟩:=D4s V;obtain⟨bd,rfl⟩:=C7m m h9;obtain⟨q,rfl⟩:=A1t underlying3 E;exact⟨⟨z,s,fs,ps,ss,r,vs,O,bd,q⟩,by simp [Bc,Eu,Ce]⟩
theorem G6c (h:F9 prog n 38 ds):∃l:List Decl,ds=[.slice (Bu l)]:=by obtain⟨k,rows,rfl,rfl,hr⟩:=A2x underlying38 h;obtain⟨l,rfl⟩:=Zb (C:=Bc) (fun row E=>G0q E) rows hr;exact⟨l,rfl⟩
theorem G5w (h:F9 prog n 43 ds):∃p:Prog,ds=Aj p:=by obtain⟨m,rfl,E⟩:=A3u underlying43 h;simp only [Sc] at E;obtain⟨a,_,rfl,J,_,b,_,rfl,I,_,rfl⟩:=E;obtain⟨l,rfl⟩:=G6c J;obtain⟨e,rfl⟩:=C7m m I;exact⟨⟨l,e⟩,by simp [Aj,Ce]⟩
def D8m:List TypeId:=[3,4,9,57,24,22,41,39,93,54,95,55,59,56,61,38,43]
theorem G1t:B9a prog D8m=true:=by kernel_rfl
variable {H:Type} {enc:TypeId × Value→H}
theorem F5p {W:World} {base:Nat} {v:Value} {d:DataW H} {ps:List MemPlace} (E:Value.okWide prog W .any base 43 v)
  (h:DataW.Trod enc prog W 0 (fun _=>true) true 43 v d ps) (J:∀k,k∈d.weights prog 43→k≤reachBytes) (β:Names):∃p:Prog,Am (all W) W β (Cv p) v:=by
 obtain⟨n,ds,L,I⟩:=G5i G1t (by simp [D8m]) underlying43 E h J β;obtain⟨p,rfl⟩:=G5w L;exact⟨p,I⟩
end Go.Abs
