/- Data of the program's types are types, expressions, declarations, programs -/
import Derived.Test.YtbhbfpjnenekpaaGreatDoorJRead
import Derived.Test.YtbhbfpjnenekpaaGreatDoorJEnc
import Derived.Test.YtbhbfpjnenekpaaGreatDoorJTypes
namespace Go.Abs
set_option maxRecDepth 100000
set_option maxHeartbeats 1000000
set_option linter.unusedSimpArgs false
set_option linter.unusedVariables false
open Go Go.Proofs Tryz
variable {P:Program}
theorem conf_str {T:TypeId} (hu:P.underlying T=some .string):∀ {n:Nat} {ds:List D},Conf P n T ds→∃ s:Str,ds=[.str s]
 | 0,_,h=>by simp [Conf] at h
 | n+1,_,h=>by rw [Conf,hu] at h;exact h
theorem conf_int {T:TypeId} {k:IntKind} (hu:P.underlying T=some (.int k)):∀ {n:Nat} {ds:List D},Conf P n T ds→∃ z,ds=[.int k z]
 | 0,_,h=>by simp [Conf] at h
 | n+1,_,h=>by rw [Conf,hu] at h;exact h
theorem conf_slice {T e:TypeId} (hu:P.underlying T=some (.slice e)):∀ {n:Nat} {ds:List D},Conf P n T ds→∃ m rows,n=m+1∧ds=[.slice rows]∧∀ row,row∈rows→Conf P m e row
 | 0,_,h=>by simp [Conf] at h
 | n+1,_,h=>by rw [Conf,hu] at h;obtain⟨rows,h1,h2⟩:=h;exact⟨n,rows,rfl,h1,h2⟩
theorem conf_struct {T:TypeId} {fs:Array Field} (hu:P.underlying T=some (.struct fs)):∀ {n:Nat} {ds:List D},Conf P n T ds→∃ m,n=m+1∧ConfL P m fs.toList ds
 | 0,_,h=>by simp [Conf] at h
 | n+1,_,h=>by rw [Conf,hu] at h;exact⟨n,rfl,h⟩
theorem rows_map {α:Type} {C:α→List D} {Q:List D→Prop} (h:∀ row,Q row→∃ x,row=C x):∀ (rows:List (List D)),(∀ row,row∈rows→Q row)→∃ l:List α,rows=l.map C
 | [],_=>⟨[],rfl⟩
 | row::rows,hr=>by
  obtain⟨x,hx⟩:=h row (hr row (by simp))
  obtain⟨l,hl⟩:=rows_map h rows fun r hr'=>hr r (by simp [hr'])
  exact⟨x::l,by rw [hx,hl];rfl⟩
theorem conf_ty:∀ (n:Nat) {ds:List D},Conf prog n 25 ds→∃ t:Ty,ds=tyC t:=by
 intro n
 induction n using Nat.strongRecOn with
 | ind n ih =>
 intro ds h
 obtain⟨m,rfl,hL⟩:=conf_struct underlying25 h
 simp only [ConfL] at hL
 obtain⟨a,_,rfl,h1,_,b,_,rfl,h2,_,c,_,rfl,h3,_,rfl⟩:=hL
 obtain⟨s,rfl⟩:=conf_str underlying9 h1
 obtain⟨k,rows,rfl,rfl,hr⟩:=conf_slice underlying23 h2
 obtain⟨z,rfl⟩:=conf_int underlying3 h3
 obtain⟨l,rfl⟩:=rows_map (C:=tyC) (fun row hrow=>ih k (by omega) hrow) rows hr
 exact⟨.mk s l z,by simp [tyC,Ty.name,Ty.args,Ty.pos,tyR_map]⟩
variable {n:Nat} {ds:List D}
theorem conf_tys (h:Conf prog n 23 ds):∃ l:List Ty,ds=[.slice (tyR l)]:=by
 obtain⟨k,rows,rfl,rfl,hr⟩:=conf_slice underlying23 h
 obtain⟨l,rfl⟩:=rows_map (C:=tyC) (fun row hrow=>conf_ty k hrow) rows hr
 exact⟨l,by rw [tyR_map]⟩
theorem conf_strs (h:Conf prog n 59 ds):∃ l:List Str,ds=[.slice (strR l)]:=by
 obtain⟨k,rows,rfl,rfl,hr⟩:=conf_slice underlying59 h
 obtain⟨l,rfl⟩:=rows_map (C:=fun s:Str=>[.str s]) (fun row hrow=>conf_str underlying9 hrow) rows hr
 exact⟨l,rfl⟩
theorem conf_ex:∀ (n:Nat) {ds:List D},Conf prog n 28 ds→∃ e:Ex,ds=exC e:=by
 intro n
 induction n using Nat.strongRecOn with
 | ind n ih =>
 intro ds h
 obtain⟨m,rfl,hL⟩:=conf_struct underlying28 h
 simp only [ConfL] at hL
 obtain⟨a,_,rfl,h1,_,b,_,rfl,h2,_,c,_,rfl,h3,_,d,_,rfl,h4,_,e,_,rfl,h5,_,f,_,rfl,h6,_,rfl⟩:=hL
 obtain⟨z,rfl⟩:=conf_int underlying3 h1
 obtain⟨s,rfl⟩:=conf_str underlying9 h2
 obtain⟨t,rfl⟩:=conf_ty m h3
 obtain⟨l,rfl⟩:=conf_tys h4
 obtain⟨k,rows,rfl,rfl,hr⟩:=conf_slice underlying26 h5
 obtain⟨q,rfl⟩:=conf_int underlying3 h6
 obtain⟨ks,rfl⟩:=rows_map (C:=exC) (fun row hrow=>ih k (by omega) hrow) rows hr
 exact⟨.mk z s t l ks q,by simp [exC,tyC,Ex.kind,Ex.name,Ex.type,Ex.targs,Ex.kids,Ex.pos,exR_map]⟩
theorem conf_fo (h:Conf prog n 147 ds):∃ e:Formal,ds=foC e:=by
 obtain⟨m,rfl,hL⟩:=conf_struct underlying147 h
 simp only [ConfL] at hL
 obtain⟨a,_,rfl,h1,_,b,_,rfl,h2,_,c,_,rfl,h3,_,rfl⟩:=hL
 obtain⟨s,rfl⟩:=conf_str underlying9 h1
 obtain⟨t,rfl⟩:=conf_ty m h2
 obtain⟨z,rfl⟩:=conf_int underlying3 h3
 exact⟨⟨s,t,z⟩,rfl⟩
theorem conf_pa (h:Conf prog n 96 ds):∃ e:Param,ds=paC e:=by
 obtain⟨m,rfl,hL⟩:=conf_struct underlying96 h
 simp only [ConfL] at hL
 obtain⟨a,_,rfl,h1,_,b,_,rfl,h2,_,c,_,rfl,h3,_,rfl⟩:=hL
 obtain⟨s,rfl⟩:=conf_str underlying9 h1
 obtain⟨t,rfl⟩:=conf_ty m h2
 obtain⟨z,rfl⟩:=conf_int underlying3 h3
 exact⟨⟨s,t,z⟩,rfl⟩
theorem conf_fos (h:Conf prog n 49 ds):∃ l:List Formal,ds=[.slice (foR l)]:=by
 obtain⟨k,rows,rfl,rfl,hr⟩:=conf_slice underlying49 h
 obtain⟨l,rfl⟩:=rows_map (C:=foC) (fun row hrow=>conf_fo hrow) rows hr
 exact⟨l,rfl⟩
theorem conf_pas (h:Conf prog n 50 ds):∃ l:List Param,ds=[.slice (paR l)]:=by
 obtain⟨k,rows,rfl,rfl,hr⟩:=conf_slice underlying50 h
 obtain⟨l,rfl⟩:=rows_map (C:=paC) (fun row hrow=>conf_pa hrow) rows hr
 exact⟨l,rfl⟩
theorem conf_si (h:Conf prog n 52 ds):∃ e:Sig,ds=siC e:=by
 obtain⟨m,rfl,hL⟩:=conf_struct underlying52 h
 simp only [ConfL] at hL
 obtain⟨a,_,rfl,h1,_,b,_,rfl,h2,_,c,_,rfl,h3,_,d,_,rfl,h4,_,e,_,rfl,h5,_,rfl⟩:=hL
 obtain⟨s,rfl⟩:=conf_str underlying9 h1
 obtain⟨fs,rfl⟩:=conf_fos h2
 obtain⟨ps,rfl⟩:=conf_pas h3
 obtain⟨t,rfl⟩:=conf_ty m h4
 obtain⟨z,rfl⟩:=conf_int underlying3 h5
 exact⟨⟨s,fs,ps,t,z⟩,rfl⟩
theorem conf_sis (h:Conf prog n 58 ds):∃ l:List Sig,ds=[.slice (siR l)]:=by
 obtain⟨k,rows,rfl,rfl,hr⟩:=conf_slice underlying58 h
 obtain⟨l,rfl⟩:=rows_map (C:=siC) (fun row hrow=>conf_si hrow) rows hr
 exact⟨l,rfl⟩
theorem conf_de (h:Conf prog n 61 ds):∃ e:Decl,ds=deC e:=by
 obtain⟨m,rfl,hL⟩:=conf_struct underlying61 h
 simp only [ConfL] at hL
 obtain⟨a,_,rfl,h1,_,b,_,rfl,h2,_,c,_,rfl,h3,_,d,_,rfl,h4,_,e,_,rfl,h5,_,f,_,rfl,h6,_,g,_,rfl,h7,_,i,_,rfl,h8,_,j,_,rfl,h9,_,k,_,rfl,h10,_,rfl⟩:=hL
 obtain⟨z,rfl⟩:=conf_int underlying3 h1
 obtain⟨s,rfl⟩:=conf_str underlying9 h2
 obtain⟨fs,rfl⟩:=conf_fos h3
 obtain⟨ps,rfl⟩:=conf_pas h4
 obtain⟨ss,rfl⟩:=conf_sis h5
 obtain⟨r,rfl⟩:=conf_str underlying9 h6
 obtain⟨vs,rfl⟩:=conf_strs h7
 obtain⟨sg,rfl⟩:=conf_si h8
 obtain⟨bd,rfl⟩:=conf_ex m h9
 obtain⟨q,rfl⟩:=conf_int underlying3 h10
 exact⟨⟨z,s,fs,ps,ss,r,vs,sg,bd,q⟩,by simp [deC,siC,exC]⟩
theorem conf_des (h:Conf prog n 22 ds):∃ l:List Decl,ds=[.slice (deR l)]:=by
 obtain⟨k,rows,rfl,rfl,hr⟩:=conf_slice underlying22 h
 obtain⟨l,rfl⟩:=rows_map (C:=deC) (fun row hrow=>conf_de hrow) rows hr
 exact⟨l,rfl⟩
theorem conf_pr (h:Conf prog n 30 ds):∃ p:Prog,ds=prC p:=by
 obtain⟨m,rfl,hL⟩:=conf_struct underlying30 h
 simp only [ConfL] at hL
 obtain⟨a,_,rfl,h1,_,b,_,rfl,h2,_,rfl⟩:=hL
 obtain⟨l,rfl⟩:=conf_des h1
 obtain⟨e,rfl⟩:=conf_ex m h2
 exact⟨⟨l,e⟩,by simp [prC,exC]⟩
def dataTs:List TypeId:=[3,4,9,59,25,23,28,26,147,49,96,50,52,58,61,22,30]
theorem dataTs_ok:okTs prog dataTs=true:=by kernel_rfl
variable {H:Type} {enc:TypeId × Value→H}
theorem arg_pr {W:World} {base:Nat} {v:Value} {d:DataW H} {ps:List MemPlace} (hok:Value.okWide prog W .any base 30 v)
  (h:DataW.Trod enc prog W 0 (fun _=>true) true 30 v d ps) (hw:∀ k,k∈d.weights prog 30→k≤reachBytes) (β:Names):∃ p:Prog,RepV (all W) W β (prV p) v:=by
 obtain⟨n,ds,h1,h2⟩:=arg_agg dataTs_ok (by simp [dataTs]) underlying30 hok h hw β
 obtain⟨p,rfl⟩:=conf_pr h1
 exact⟨p,h2⟩
end Go.Abs
