import Derived.Test.YtdnodlkdndfplaaGreatDoorT2
set_option linter.constructorNameAsVariable false
set_option linter.unusedSimpArgs false
set_option linter.unusedVariables false
namespace Go.Proofs.YtdnodlkdndfplaaGreatDoor
open Go.Am Go.Tx Dv
set_option maxRecDepth 100000
set_option maxHeartbeats 4000000 in
theorem Zrg (p:FuncId→Option (List PV→Option PV)) (hp:p 141=none) (m:Bool) (a:List Int) (ha:Wd a) (hl:a.length≤1000000):PureOK Tryz.prog (Zl6 p) 141 [.v .b m,ZaX a] (fun V=> ∃s,V= .agg [.v .b (m&&decide (0<(s.length:Int))),ZaX s]∧Wd s∧Nz s∧s.length≤a.length∧wv s=wv a):=by
 refine ZgY (fn:=Tryz.f141) (code:=ZdY Tryz.f141) Zao (by kernel_rfl) hp Tryz.func141 (by kernel_rfl) (Nat.le_of_ble_eq_true (by kernel_rfl)) ?_
 refine ZaC Zao rfl (fun(k:Nat)=> [(0, .v .b m),(1,ZaX (a.take k)),(4, .ptr 0 0 0)]) (fun _=> [.cell [.v .b false, .nils] true])
  (fun k=>k≤a.length∧wv (a.take k)=wv a) (fun k=>k) ?_ a.length ?_ ?_
 ·rintro k ⟨hk,hval⟩
  have nf: ∀ {b:Bool},b=true→b=false→False:=fun h h'=>by rw[h]at h';cases h'
  refine And.intro (fun h=> ?_) (fun h=> ?_)
  ·refine And.intro (fun _=> ?_) (fun h'=>(nf h h').elim)
   refine And.intro (fun _=> ?_) (fun h'=>(nf h h').elim)
   refine And.intro (fun _=> ?_) (fun h'=>(nf h h').elim)
   refine And.intro (fun _=> ?_) (fun h'=>(nf h h').elim)
   have hkl:(a.take k).length=k:=by rw[List.length_take];omega
   have hk1:1≤k:=by have:=of_decide_eq_true h;rw[hkl]at this;omega
   obtain⟨j,rfl⟩: ∃j,k=j+1:=⟨k-1,by omega⟩
   have ej:IntKind.i64.wrap (((a.take (j+1)).length:Int)-1)=(j:Int):=by rw[hkl,Zan (by omega) (by omega)];omega
   have hj0:0≤IntKind.i64.wrap (((a.take (j+1)).length:Int)-1):=by rw[ej];omega
   have hg:(a.take (j+1))[(IntKind.i64.wrap (((a.take (j+1)).length:Int)-1)).toNat]? =some a[j]:=by
    rw[ej,Int.toNat_natCast,List.getElem?_take_of_lt (by omega)];exact List.getElem?_eq_getElem (by omega)
   refine⟨a[j],hj0,hg, ?_⟩
   refine And.intro (fun _=> ?_) (fun h'=>(nf h h').elim)
   refine And.intro (fun _=> ?_) (fun h'=>(nf h h').elim)
   refine And.intro (fun _=> ?_) (fun h'=>(nf h h').elim)
   refine And.intro (fun h2=> ?_) (fun h2=> ?_)
   ·refine And.intro ⟨hj0,by show IntKind.i64.wrap (((a.take (j+1)).length:Int)-1)≤((a.take (j+1)).length:Int);rw[ej,hkl];omega⟩ ?_
    have hz:a[j]=0:=of_decide_eq_true h2
    have et:a.take j=List.drop 0 (List.take (IntKind.i64.wrap (((a.take (j+1)).length:Int)-1)).toNat (a.take (j+1))):=by
     rw[ej,Int.toNat_natCast,List.drop_zero,List.take_take,Nat.min_eq_left (by omega)]
    refine⟨j,⟨by show j≤a.length;omega, ?_⟩,by show j<j+1;omega, ?_⟩
    ·show wv (a.take j)=wv a
     rw[←hval,Za4 (by omega:j<a.length),hz];omega
    ·refine Zaq rfl rfl ?_ ?_
     ·exact⟨rfl,et,⟨rfl,rfl⟩,trivial⟩
     ·exact⟨⟨⟨rfl,trivial,trivial⟩,fun _=>rfl⟩,trivial⟩
   ·have hnz:Nz (a.take (j+1)):=by
     intro hne
     rw[List.getLast_eq_getElem]
     simp only[hkl,Nat.add_sub_cancel,List.getElem_take]
     exact of_decide_eq_false h2
    have hwd:Wd (a.take (j+1)):=fun x hx=>ha x (List.mem_of_mem_take hx)
    refine And.intro (fun hm=> ?_) (fun hm=> ?_)
    ·refine And.intro (fun _=> ?_) (fun h'=>(nf hm h').elim)
     refine And.intro (fun _=> ?_) (fun h'=>(nf hm h').elim)
     refine And.intro (fun _=> ?_) (fun h'=>(nf hm h').elim)
     subst hm
     exact⟨rfl,rfl,a.take (j+1),rfl,hwd,hnz,by rw[hkl];exact hk,hval⟩
    ·refine And.intro (fun h'=>(nf h' hm).elim) (fun _=> ?_)
     refine And.intro (fun h'=>(nf h' hm).elim) (fun _=> ?_)
     refine And.intro (fun h'=>(nf h' hm).elim) (fun _=> ?_)
     subst hm
     exact⟨rfl,rfl,a.take (j+1),rfl,hwd,hnz,by rw[hkl];exact hk,hval⟩
  ·have hkl:(a.take k).length=k:=by rw[List.length_take];omega
   have hk0:k=0:=by have:=of_decide_eq_false h;rw[hkl]at this;omega
   subst hk0
   refine And.intro (fun h'=>(nf h' h).elim) (fun _=> ?_)
   refine And.intro (fun h'=>(nf h' h).elim) (fun _=> ?_)
   refine And.intro (fun h'=>(nf h' h).elim) (fun _=> ?_)
   refine And.intro (fun h'=>(nf h' h).elim) (fun _=> ?_)
   refine And.intro (fun h'=>(nf h' h).elim) (fun _=> ?_)
   refine And.intro (fun h'=>(nf h' h).elim) (fun _=> ?_)
   refine And.intro (fun h'=>(nf h' h).elim) (fun _=> ?_)
   refine And.intro (fun h'=>nomatch h') (fun _=> ?_)
   refine And.intro (fun hm=> ?_) (fun hm=> ?_)
   ·refine And.intro (fun _=> ?_) (fun h'=>(nf hm h').elim)
    refine And.intro (fun _=> ?_) (fun h'=>(nf hm h').elim)
    refine And.intro (fun _=> ?_) (fun h'=>(nf hm h').elim)
    subst hm
    exact⟨rfl,rfl,[],rfl,fun x hx=>(by simp at hx),fun hne=>absurd rfl hne,Nat.zero_le _,hval⟩
   ·refine And.intro (fun h'=>(nf h' hm).elim) (fun _=> ?_)
    refine And.intro (fun h'=>(nf h' hm).elim) (fun _=> ?_)
    refine And.intro (fun h'=>(nf h' hm).elim) (fun _=> ?_)
    subst hm
    exact⟨rfl,rfl,[],rfl,fun x hx=>(by simp at hx),fun hne=>absurd rfl hne,Nat.zero_le _,hval⟩
 ·exact⟨Nat.le_refl _,by rw[List.take_length]⟩
 ·refine Zaq rfl rfl ?_ ?_
  ·exact⟨rfl,(List.take_length).symm▸rfl,⟨rfl,rfl⟩,trivial⟩
  ·exact⟨⟨⟨rfl,trivial,trivial⟩,fun _=>rfl⟩,trivial⟩
theorem Zs5 (m:Bool) (a:List Int) (ha:Wd a) (hl:a.length≤1000000):PureOK Tryz.prog Zau 141 [.v .b m,ZaX a] (fun V=> ∃s,V= .agg [.v .b (m&&decide (0<(s.length:Int))),ZaX s]∧Wd s∧Nz s∧s.length≤a.length∧wv s=wv a):=Zrg prims rfl m a ha hl
end Go.Proofs.YtdnodlkdndfplaaGreatDoor
/-
 The words of a number.
-/
namespace Dv
def wOf (n:Nat):List Int:=if h:n=0 then[]else((n % 4294967296:Nat):Int)::wOf (n/4294967296)
termination_by n
decreasing_by omega
theorem Zc5:wOf 0=[]:=by rw[wOf,dif_pos rfl]
theorem Zij {n:Nat} (h:n≠0):wOf n=((n % 4294967296:Nat):Int)::wOf (n/4294967296):=by rw[wOf,dif_neg h]
theorem Zd7 {n:Nat}:wOf n=[]↔n=0:=by
 constructor
 ·intro h
  rcases Nat.eq_zero_or_pos n with h0|h0
  ·exact h0
  ·rw[Zij (by omega)]at h;cases h
 ·rintro rfl;exact Zc5
theorem Zis (n:Nat):Wd (wOf n)∧Nz (wOf n)∧wv (wOf n)=n:=by
 induction n using Nat.strongRecOn with
 |_ n ih=>
  by_cases h:n=0
  ·subst h
   rw[Zc5]
   exact⟨fun x hx=>by simp at hx,fun h=>absurd rfl h,rfl⟩
  ·obtain⟨h1,h2,h3⟩:=ih (n/4294967296) (by omega)
   rw[Zij h]
   refine⟨fun x hx=> ?_,fun hne=> ?_, ?_⟩
   ·rcases List.mem_cons.1 hx with rfl|hx
    ·omega
    ·exact h1 x hx
   ·by_cases hz:wOf (n/4294967296)=[]
    ·have:n/4294967296=0:=Zd7.1 hz
     simp only[hz,List.getLast_singleton]
     omega
    ·rw[List.getLast_cons hz]
     exact h2 hz
   ·rw[wv,h3];omega
theorem ZcN (n:Nat):Wd (wOf n):=(Zis n).1
theorem ZsC (n:Nat):Nz (wOf n):=(Zis n).2.1
theorem ZbL (n:Nat):wv (wOf n)=n:=(Zis n).2.2
theorem Zjo {l:List Int} (h:Wd l):0≤wv l:=(ZaL h).1
theorem ZlK: ∀ {l:List Int} {n:Nat},Wd l→Nz l→wv l=n→l=wOf n
 | [],n,_,_,h=>by
  have:n=0:=by simp only[wv]at h;omega
  rw[this,Zc5]
 |x::l,n,h1,h2,h3=>by
  have hx:=h1 x List.mem_cons_self
  have hl:Wd l:=fun y hy=>h1 y (List.mem_cons_of_mem _ hy)
  have hp:=Zkh h1 h2 (by simp)
  have h0:=Zjo hl
  simp only[wv]at h3 hp
  have hn:Nz l:=fun hne=>by
   have:=h2 (by simp)
   rwa[List.getLast_cons hne]at this
  rw[Zij (by omega),←ZlK (l:=l) (n:=n/4294967296) hl hn (by omega)]
  congr 1
  omega
theorem Zda {n k:Nat}:(wOf n).length≤k↔n<4294967296^k:=by
 induction k generalizing n with
 |zero=>
  simp only[Nat.le_zero_eq,List.length_eq_zero_iff,Zd7,Nat.pow_zero]
  omega
 |succ k ih=>
  by_cases h:n=0
  ·subst h
   rw[Zc5]
   simp only[List.length_nil,Nat.zero_le,true_iff]
   exact Nat.pow_pos (by decide)
  ·rw[Zij h,List.length_cons,Nat.add_le_add_iff_right,ih,Nat.pow_succ]
   omega
theorem Za6 {m n:Nat} (h:m≤n):(wOf m).length≤(wOf n).length:=by
 rw[Zda]
 exact Nat.lt_of_le_of_lt h (Zda.1 (Nat.le_refl _))
theorem Zll (m n:Nat):(wOf (m*n)).length≤(wOf m).length+(wOf n).length:=by
 rw[Zda,Nat.pow_add]
 have h1:m<4294967296^(wOf m).length:=Zda.1 (Nat.le_refl _)
 have h2:n<4294967296^(wOf n).length:=Zda.1 (Nat.le_refl _)
 exact Nat.mul_lt_mul'' h1 h2
def ln (v:Int):Nat:=(wOf v.natAbs).length
theorem Zty (a b:Int):ln (a*b)≤ln a+ln b:=by rw[ln,Int.natAbs_mul];exact Zll _ _
theorem ZtN {v:Int} {k:Nat}:ln v≤k↔v.natAbs<4294967296^k:=Zda
theorem ZlF {v:Int} (h:v.natAbs<18446744073709551616):ln v≤2:=ZtN.2 (by simpa using h)
end Dv
