/-
 large.Ratio: a fraction in lowest terms.
-/
import Derived.Test.YtdnodlkdndfplaaGreatDoorDq
set_option linter.constructorNameAsVariable false
set_option linter.unusedSimpArgs false
set_option linter.unusedVariables false
namespace Go.Proofs.YtdnodlkdndfplaaGreatDoor
open Go.Am Go.Tx Dv Go.Lib
set_option maxRecDepth 100000
abbrev QR (q:Rat):SV:=QS q.num (q.den:Int)
theorem Znv {n:Nat} (h:((wOf n).length:Int)=1) {x:Int} (hx:(wOf n)[(0:Int).toNat]? =some x) (h1:x=1):n=1:=by
 have hv:=ZbL n
 obtain⟨w,hw⟩: ∃w,wOf n=w:=⟨_,rfl⟩
 rw[hw]at h hx hv
 match w,h,hx,hv with
 | [y],_,hx,hv=>
  have hy:y=x:=by simpa using hx
  rw[hy,h1]at hv
  simp only[wv]at hv
  omega
 | [],h,_,_=>simp at h
 |_::_::_,h,_,_=>simp only[List.length_cons]at h;omega
theorem ZdS {n d:Int} (hd:0<d):(Rat.divInt n d).num=n/(Int.gcd n d:Int)∧((Rat.divInt n d).den:Int)=d/(Int.gcd n d:Int):=by
 rw[Rat.num_divInt,Rat.den_divInt,Int.sign_eq_one_of_pos hd,if_neg (by omega),Int.one_mul,Int.gcd_comm d n,Int.natCast_ediv,Int.natAbs_of_nonneg (by omega)]
 exact⟨rfl,rfl⟩
theorem ZoK (n:Int) {d:Int} (h:d.natAbs=1) (hd:0<d):QR (Rat.divInt n d)=QS n d:=by
 have:d=1:=by omega
 subst this
 obtain⟨h1,h2⟩:=ZdS (n:=n) (d:=1) (by decide)
 rw[Int.gcd_one,Int.natCast_one,Int.ediv_one]at h1 h2
 show QS _ _=_
 rw[h1,h2]
theorem Zpn (n:Int) {d:Int} (h:(Int.gcd n d:Int).natAbs=1) (hd:0<d):QR (Rat.divInt n d)=QS n d:=by
 obtain⟨h1,h2⟩:=ZdS (n:=n) hd
 have hg:(Int.gcd n d:Int)=1:=by omega
 rw[hg,Int.ediv_one]at h1 h2
 show QS _ _=_
 rw[h1,h2]
theorem ZqX {n g:Int} (hg:0<g) (hdv:g∣n):(match decide (n<0)with|true=>decide ((0:Int)<((wOf ((n.natAbs:Int)/g).natAbs).length:Int))|false=>false)=decide (n/g<0)∧((n.natAbs:Int)/g).natAbs=(n/g).natAbs:=by
 obtain⟨k,rfl⟩:=hdv
 rw[Int.mul_ediv_cancel_left _ (by omega),Int.natAbs_mul,Int.natCast_mul,Int.natAbs_of_nonneg (by omega),Int.mul_ediv_cancel_left _ (by omega),Int.natAbs_natCast]
 refine⟨?_,rfl⟩
 by_cases hk:k<0
 ·rw[decide_eq_true (Int.mul_neg_of_pos_of_neg hg hk),decide_eq_true hk]
  refine decide_eq_true ?_
  have:wOf k.natAbs≠ []:=by rw[ne_eq,Zd4];omega
  have:=List.length_pos_iff.2 this
  omega
 ·rw[decide_eq_false (by have:=Int.mul_nonneg (a:=g) (b:=k) (by omega) (by omega);omega),decide_eq_false hk]
def ZxF (m:Bool) (n d:Int) (z:List SV):List SM:=[.cell [.v .b m,ZaX (wOf n.natAbs)] true, .cell [.v .b (decide (d<0)),ZaX (wOf d.natAbs)] true, .cell z true]
def ZwQ (m:Bool) (n d g:Int) (z:List SV):List SM:=[.cell [.v .b m,ZaX (wOf n.natAbs)] true, .cell [.v .b (decide (d<0)),ZaX (wOf d.natAbs)] true, .cell z true, .cell [.v .b (decide (g<0)),ZaX (wOf g.natAbs)] true]
def Zvz:List SV:=[.v .b false, .nils, .v .b false, .nils]
set_option maxHeartbeats 8000000 in
theorem ZpB (n d:Int) (hd0:d≠0) (hln:ln n≤700000) (hld:ln d≤700000):PureOK Tryz.prog Zat 102 [IS n,IS d] (fun V=>V=QR (Rat.divInt n d)):=by
 refine Zak Zal Tryz.func102 ?_
 refine And.intro rfl ?_
 refine And.intro (fun h=> ?_) (fun h=> ?_)
 have hneg:d<0:=of_decide_eq_true h
 obtain⟨n',hn'⟩: ∃n',-n=n':=⟨_,rfl⟩
 obtain⟨d',hd'⟩: ∃d',-d=d':=⟨_,rfl⟩
 have hN:=Zuu n (by omega)
 have hD:=Zuu d (by omega)
 rw[hn']at hN
 rw[hd']at hD
 have hq:Rat.divInt n d=Rat.divInt n' d':=by rw[←hn',←hd',Rat.neg_divInt_neg]
 have hd:0<d':=by omega
 have hln':ln n'≤700000:=by rw[←hn',Zqz];exact hln
 have hld':ln d'≤700000:=by rw[←hd',Zqz];exact hld
 refine And.intro rfl ?_
 refine hN.mono ?_
 rintro _ rfl
 refine And.intro rfl ?_
 refine hD.mono ?_
 rintro _ rfl
 refine And.intro rfl ?_
 refine And.intro rfl ?_
 refine Zlr (ZxF (decide (n'<0)) n' d' Zvz) rfl ?_
 rotate_left 1
 obtain⟨n',hn'⟩: ∃n',n'=n:=⟨_,rfl⟩
 obtain⟨d',hd'⟩: ∃d',d'=d:=⟨_,rfl⟩
 have hq:Rat.divInt n d=Rat.divInt n' d':=by rw[hn',hd']
 have hd:0<d':=by
  have:=of_decide_eq_false h
  omega
 have hln':ln n'≤700000:=by rw[hn'];exact hln
 have hld':ln d'≤700000:=by rw[hd'];exact hld
 subst hn' hd'
 refine Zlr (ZxF (decide (n'<0)) n' d' Zvz) rfl ?_
 all_goals
  rw[hq]
  have hG:=ZvP n' d' hln' hld'
  obtain⟨g,hg⟩: ∃g:Int,(Int.gcd n' d':Int)=g:=⟨_,rfl⟩
  have hg0:0<g:=by
   have:0<Int.gcd n' d':=Int.gcd_pos_of_ne_zero_right _ (by omega)
   omega
  have hlg:ln g≤700000:=by
   refine Nat.le_trans (Zl2 (b:=d') ?_) hld'
   have:Int.gcd n' d'∣d'.natAbs:=Int.gcd_dvd_natAbs_right _ _
   have:=Nat.le_of_dvd (by omega) this
   omega
  have hdn:g∣n':=by rw[←hg];exact Int.gcd_dvd_left _ _
  obtain⟨q1,q2⟩:=ZdS (n:=n') hd
  have hone:=Zpn n' (d:=d')
  rw[hg]at hG q1 q2 hone
  have hA:=ZnZ (n'.natAbs:Int) g hg0 (by rw[ln,Int.natAbs_natCast];exact hln') hlg
  rw[ZnA]at hA
  have hB:=ZnZ d' g hg0 hld' hlg
  obtain⟨s1,s2⟩:=ZqX (n:=n') hg0 hdn
  obtain⟨A,eA⟩: ∃A,(n'.natAbs:Int)/g=A:=⟨_,rfl⟩
  obtain⟨Ar,eAr⟩: ∃A,(n'.natAbs:Int) % g=A:=⟨_,rfl⟩
  obtain⟨B,eB⟩: ∃A,d'/g=A:=⟨_,rfl⟩
  obtain⟨Br,eBr⟩: ∃A,d' % g=A:=⟨_,rfl⟩
  rw[eA,eAr]at hA
  rw[eB,eBr]at hB
  rw[eA]at s1 s2
  rw[eB]at q2
  first|refine Zab (Zaa rfl ?_)|refine Zab (Zab (Zaa rfl ?_))
  refine Zah rfl (fun _=>rfl) rfl rfl ?_
  refine Zqv rfl (fun _=>rfl) rfl rfl rfl ?_
  iterate 3 refine Zah rfl (fun _=>rfl) rfl rfl ?_
  refine @Classical.byCases (decide (((wOf d'.natAbs).length:Int)=1)=true) _ (fun hl=> ?_) (fun hl=> ?_)
  obtain⟨y,hy⟩: ∃y,(wOf d'.natAbs)[(0:Int).toNat]? =some y:=⟨_,List.getElem?_eq_getElem (by have:=of_decide_eq_true hl;show 0<_;omega)⟩
  refine Zae rfl rfl rfl hl (fun _=>rfl) rfl rfl ?_
  refine Zg2 rfl rfl rfl hl (fun _=>rfl) rfl rfl rfl ?_
  refine Zcu rfl rfl rfl hl (fun _=>rfl) (Int.le_refl 0) hy rfl rfl ?_
  iterate 2 refine Zae rfl rfl rfl hl (fun _=>rfl) rfl rfl ?_
  refine ZaG rfl rfl rfl hl rfl rfl rfl ?_
  refine Zam ?_
  refine And.intro (fun h=> ?_) (fun _=> ?_)
  ·have e:=ZoK n' (Znv (of_decide_eq_true hl) hy (of_decide_eq_true h)) hd
   refine And.intro rfl ?_
   refine And.intro rfl ?_
   refine And.intro rfl ?_
   refine And.intro rfl ?_
   rw[e]
   rfl
  rotate_left 1
  have hl:decide (((wOf d'.natAbs).length:Int)=1)=false:=by simpa using hl
  iterate 5 refine Zag rfl rfl rfl hl rfl rfl ?_
  refine Zax rfl rfl rfl hl rfl rfl rfl ?_
  refine Zam ?_
  refine And.intro (fun h=>nomatch h) (fun _=> ?_)
  all_goals
   clear hl
   refine And.intro rfl ?_
   refine And.intro rfl ?_
   refine hG.mono ?_
   rintro _ rfl
   refine And.intro rfl ?_
   refine Zlr (ZwQ (decide (n'<0)) n' d' g Zvz) rfl ?_
   first|refine Zab (Zaa rfl ?_)|refine Zab (Zab (Zaa rfl ?_))
   refine Zah rfl (fun _=>rfl) rfl rfl ?_
   refine Zqv rfl (fun _=>rfl) rfl rfl rfl ?_
   iterate 3 refine Zah rfl (fun _=>rfl) rfl rfl ?_
   refine @Classical.byCases (decide (((wOf g.natAbs).length:Int)=1)=true) _ (fun hl=> ?_) (fun hl=> ?_)
   obtain⟨y,hy⟩: ∃y,(wOf g.natAbs)[(0:Int).toNat]? =some y:=⟨_,List.getElem?_eq_getElem (by have:=of_decide_eq_true hl;show 0<_;omega)⟩
   refine Zae rfl rfl rfl hl (fun _=>rfl) rfl rfl ?_
   refine Zg2 rfl rfl rfl hl (fun _=>rfl) rfl rfl rfl ?_
   refine Zcu rfl rfl rfl hl (fun _=>rfl) (Int.le_refl 0) hy rfl rfl ?_
   iterate 2 refine Zae rfl rfl rfl hl (fun _=>rfl) rfl rfl ?_
   refine ZaG rfl rfl rfl hl rfl rfl rfl ?_
   refine Zam ?_
   refine And.intro (fun h=> ?_) (fun _=> ?_)
   ·have e:=hone (Znv (of_decide_eq_true hl) hy (of_decide_eq_true h)) hd
    refine And.intro rfl ?_
    refine And.intro rfl ?_
    refine And.intro rfl ?_
    refine And.intro rfl ?_
    rw[e]
    rfl
   rotate_left 1
   have hl:decide (((wOf g.natAbs).length:Int)=1)=false:=by simpa using hl
   iterate 5 refine Zag rfl rfl rfl hl rfl rfl ?_
   refine Zax rfl rfl rfl hl rfl rfl rfl ?_
   refine Zam ?_
   refine And.intro (fun h=>nomatch h) (fun _=> ?_)
   all_goals
    clear hl
    refine And.intro rfl ?_
    refine And.intro rfl ?_
    refine Zlr (ZwQ false n' d' g Zvz) rfl ?_
    refine And.intro rfl ?_
    refine And.intro rfl ?_
    refine hA.mono ?_
    rintro _ rfl
    refine And.intro rfl ?_
    refine Zlr (ZwQ (decide (A<0)) A d' g Zvz) rfl ?_
    refine And.intro rfl ?_
    refine And.intro rfl ?_
    refine hB.mono ?_
    rintro _ rfl
    refine And.intro rfl ?_
    refine Zlr (ZwQ (decide (A<0)) A B g Zvz) rfl ?_
    first|refine Zab (Zaa rfl ?_)|refine Zab (Zab (Zaa rfl ?_))
    iterate 2 refine Zah rfl (fun _=>rfl) rfl rfl ?_
    obtain⟨m,hm⟩: ∃m,decide (n'<0)=m:=⟨_,rfl⟩
    rw[hm]at s1
    cases m with
    |true=>
     refine Zae rfl rfl rfl hm (fun _=>rfl) rfl rfl ?_
     refine Zg2 rfl rfl rfl hm (fun _=>rfl) rfl rfl rfl ?_
     iterate 2 refine Zae rfl rfl rfl hm (fun _=>rfl) rfl rfl ?_
     refine ZaG rfl rfl rfl hm rfl rfl rfl ?_
     refine Zah rfl (fun _=>rfl) rfl rfl ?_
     refine Zbv rfl (And.intro rfl ?_)
     refine And.intro rfl ?_
     refine And.intro rfl ?_
     refine And.intro rfl ?_
     refine And.intro rfl ?_
     show SV.agg [.v .b (decide ((0:Int)<((wOf A.natAbs).length:Int))),ZaX (wOf A.natAbs), .v .b (decide (B<0)),ZaX (wOf B.natAbs)]=QS _ _
     simp only at s1
     rw[s2]at s1
     rw[q1,q2,s2,s1]
    |false=>
     iterate 4 refine Zag rfl rfl rfl hm rfl rfl ?_
     refine Zax rfl rfl rfl hm rfl rfl rfl ?_
     refine Zah rfl (fun _=>rfl) rfl rfl ?_
     refine Zbv rfl (And.intro rfl ?_)
     refine And.intro rfl ?_
     refine And.intro rfl ?_
     refine And.intro rfl ?_
     refine And.intro rfl ?_
     show SV.agg [.v .b false,ZaX (wOf A.natAbs), .v .b (decide (B<0)),ZaX (wOf B.natAbs)]=QS _ _
     simp only at s1
     rw[q1,q2,s2]
     show SV.agg [.v .b false,ZaX (wOf (n'/g).natAbs), .v .b (decide (B<0)),ZaX (wOf B.natAbs)]=SV.agg [.v .b (decide (n'/g<0)),ZaX (wOf (n'/g).natAbs), .v .b (decide (B<0)),ZaX (wOf B.natAbs)]
     rw[←s1]
end Go.Proofs.YtdnodlkdndfplaaGreatDoor
