import Derived.Test.YtgmjnhiakpcpbaaGreatDoorT2
set_option linter.constructorNameAsVariable false
set_option linter.unusedSimpArgs false
set_option linter.unusedVariables false
namespace Go.Proofs.YtgmjnhiakpcpbaaGreatDoor
open Go.Am Go.Tx Dv
set_option maxRecDepth 100000
set_option maxHeartbeats 4000000 in
theorem Zuq (p:FuncId→Option (List PV→Option PV)) (hp:p 88=none) (m:Bool) (a:List Int) (ha:Wd a) (hl:a.length≤1000000):PureOK Tryz.prog (Zm8 p) 88 [.v .b m,Zkb a] (fun V=> ∃s,V= .agg [.v .b (m&&decide (0<(s.length:Int))),Zkb s]∧Wd s∧Nz s∧s.length≤a.length∧wv s=wv a):=by
 refine ZhK (fn:=Tryz.f88) (code:=Zca Tryz.f88) Zaw (by kernel_rfl) hp Tryz.func88 (by kernel_rfl) (Nat.le_of_ble_eq_true (by kernel_rfl)) ?_
 refine ZaH Zaw rfl (fun(k:Nat)=> [(0, .v .b m),(1,Zkb (a.take k)),(4, .ptr 0 0 0)]) (fun _=> [.cell [.v .b false, .nils] true])
  (fun k=>k≤a.length∧wv (a.take k)=wv a) (fun k=>k) ?_ a.length ?_ ?_
 ·rintro k ⟨hk,hval⟩
  have nf: ∀ {b:Bool},b=true→b=false→False:=fun h h'=>by rw[h]at h';cases h'
  refine And.intro (fun h=> ?_) (fun h=> ?_)
  ·refine And.intro (fun _=> ?_) (fun h'=>(nf h h').elim)
   refine And.intro (fun _=> ?_) (fun h'=>(nf h h').elim)
   refine And.intro (fun _=> ?_) (fun h'=>(nf h h').elim)
   refine And.intro (fun _=> ?_) (fun h'=>(nf h h').elim)
   have hkl:(a.take k).length=k:=by rw[List.length_take];omega
   have hk1:1≤k:=by have:=of_decide_eq_true h;rw[hkl]at this;omega
   obtain⟨j,rfl⟩: ∃j,k=j+1:=⟨k-1,by omega⟩
   have ej:IntKind.i64.wrap (((a.take (j+1)).length:Int)-1)=(j:Int):=by rw[hkl,Zdf (by omega) (by omega)];omega
   have hj0:0≤IntKind.i64.wrap (((a.take (j+1)).length:Int)-1):=by rw[ej];omega
   have hg:(a.take (j+1))[(IntKind.i64.wrap (((a.take (j+1)).length:Int)-1)).toNat]? =some a[j]:=by
    rw[ej,Int.toNat_natCast,List.getElem?_take_of_lt (by omega)];exact List.getElem?_eq_getElem (by omega)
   refine⟨a[j],hj0,hg, ?_⟩
   refine And.intro (fun _=> ?_) (fun h'=>(nf h h').elim)
   refine And.intro (fun _=> ?_) (fun h'=>(nf h h').elim)
   refine And.intro (fun _=> ?_) (fun h'=>(nf h h').elim)
   refine And.intro (fun h2=> ?_) (fun h2=> ?_)
   ·refine And.intro ⟨hj0,by show IntKind.i64.wrap (((a.take (j+1)).length:Int)-1)≤((a.take (j+1)).length:Int);rw[ej,hkl];omega⟩ ?_
    have hz:a[j]=0:=of_decide_eq_true h2
    have et:a.take j=List.drop 0 (List.take (IntKind.i64.wrap (((a.take (j+1)).length:Int)-1)).toNat (a.take (j+1))):=by
     rw[ej,Int.toNat_natCast,List.drop_zero,List.take_take,Nat.min_eq_left (by omega)]
    refine⟨j,⟨by show j≤a.length;omega, ?_⟩,by show j<j+1;omega, ?_⟩
    ·show wv (a.take j)=wv a
     rw[←hval,Zti (by omega:j<a.length),hz];omega
    ·refine Zgx rfl rfl ?_ ?_
     ·exact⟨rfl,et,⟨rfl,rfl⟩,trivial⟩
     ·exact⟨⟨⟨rfl,trivial,trivial⟩,fun _=>rfl⟩,trivial⟩
   ·have hnz:Nz (a.take (j+1)):=by
     intro hne
     rw[List.getLast_eq_getElem]
     simp only[hkl,Nat.add_sub_cancel,List.getElem_take]
     exact of_decide_eq_false h2
    have hwd:Wd (a.take (j+1)):=fun x hx=>ha x (List.mem_of_mem_take hx)
    refine And.intro (fun hm=> ?_) (fun hm=> ?_)
    ·refine And.intro (fun _=> ?_) (fun h'=>(nf hm h').elim)
     refine And.intro (fun _=> ?_) (fun h'=>(nf hm h').elim)
     refine And.intro (fun _=> ?_) (fun h'=>(nf hm h').elim)
     subst hm
     exact⟨rfl,rfl,a.take (j+1),rfl,hwd,hnz,by rw[hkl];exact hk,hval⟩
    ·refine And.intro (fun h'=>(nf h' hm).elim) (fun _=> ?_)
     refine And.intro (fun h'=>(nf h' hm).elim) (fun _=> ?_)
     refine And.intro (fun h'=>(nf h' hm).elim) (fun _=> ?_)
     subst hm
     exact⟨rfl,rfl,a.take (j+1),rfl,hwd,hnz,by rw[hkl];exact hk,hval⟩
  ·have hkl:(a.take k).length=k:=by rw[List.length_take];omega
   have hk0:k=0:=by have:=of_decide_eq_false h;rw[hkl]at this;omega
   subst hk0
   refine And.intro (fun h'=>(nf h' h).elim) (fun _=> ?_)
   refine And.intro (fun h'=>(nf h' h).elim) (fun _=> ?_)
   refine And.intro (fun h'=>(nf h' h).elim) (fun _=> ?_)
   refine And.intro (fun h'=>(nf h' h).elim) (fun _=> ?_)
   refine And.intro (fun h'=>(nf h' h).elim) (fun _=> ?_)
   refine And.intro (fun h'=>(nf h' h).elim) (fun _=> ?_)
   refine And.intro (fun h'=>(nf h' h).elim) (fun _=> ?_)
   refine And.intro (fun h'=>nomatch h') (fun _=> ?_)
   refine And.intro (fun hm=> ?_) (fun hm=> ?_)
   ·refine And.intro (fun _=> ?_) (fun h'=>(nf hm h').elim)
    refine And.intro (fun _=> ?_) (fun h'=>(nf hm h').elim)
    refine And.intro (fun _=> ?_) (fun h'=>(nf hm h').elim)
    subst hm
    exact⟨rfl,rfl,[],rfl,fun x hx=>(by simp at hx),fun hne=>absurd rfl hne,Nat.zero_le _,hval⟩
   ·refine And.intro (fun h'=>(nf h' hm).elim) (fun _=> ?_)
    refine And.intro (fun h'=>(nf h' hm).elim) (fun _=> ?_)
    refine And.intro (fun h'=>(nf h' hm).elim) (fun _=> ?_)
    subst hm
    exact⟨rfl,rfl,[],rfl,fun x hx=>(by simp at hx),fun hne=>absurd rfl hne,Nat.zero_le _,hval⟩
 ·exact⟨Nat.le_refl _,by rw[List.take_length]⟩
 ·refine Zgx rfl rfl ?_ ?_
  ·exact⟨rfl,(List.take_length).symm▸rfl,⟨rfl,rfl⟩,trivial⟩
  ·exact⟨⟨⟨rfl,trivial,trivial⟩,fun _=>rfl⟩,trivial⟩
end Go.Proofs.YtgmjnhiakpcpbaaGreatDoor
