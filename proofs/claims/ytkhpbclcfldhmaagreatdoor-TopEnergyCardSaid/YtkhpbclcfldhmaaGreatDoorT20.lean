/-
 nat.Check, nat.two, nat.text.
-/
import Derived.Test.YtkhpbclcfldhmaaGreatDoorQ5
set_option linter.constructorNameAsVariable false
set_option linter.unusedSimpArgs false
set_option linter.unusedVariables false
namespace Go.Proofs.YtkhpbclcfldhmaaGreatDoor
open Go.Am Go.Tx Dv Go.Lib
set_option maxRecDepth 100000
theorem Zq4 {s:List UInt8} {i:Nat} (h:i<s.length):(Zdj s)[i]? =some ((s[i].toNat:Nat):Int):=by
 simp[Zdj,List.getElem?_eq_getElem h]
set_option maxHeartbeats 8000000 in
theorem ZeM (s:List UInt8) (hl:s.length≤9223372036854775806):PureOK Tryz.prog Zao 38 [.v .s s] (fun V=>V= .v (.i .i64) (ZaL s)):=by
 refine Zae Zah Tryz.func38 ?_
 have hbl:(Zdj s).length=s.length:=by simp[Zdj]
 refine Zaz Zah rfl (fun(i:Nat)=> [(0, .v .s s),(6, .v (.l (.i .u8)) (Zdj s)),(7, .v (.i .i64) (s.length:Int)),(8, .v (.i .i64) (i:Int))]) (fun _=> [])
  (fun i=>i≤s.length∧Dg (s.take i)) (fun i=>s.length-i) ?_ 0 ?_ ?_
 ·rintro i ⟨hi,hd⟩
  refine And.intro (fun h=> ?_) (fun h=> ?_)
  ·have hlt:i<s.length:=by have h':(i:Int)<(s.length:Int):=of_decide_eq_true h;omega
   obtain⟨c,hc⟩: ∃c,s[i]=c:=⟨_,rfl⟩
   have hx:(Zdj s)[(i:Int).toNat]? =some ((c.toNat:Nat):Int):=by rw[Int.toNat_natCast,Zq4 hlt,hc]
   refine⟨((c.toNat:Nat):Int),Int.natCast_nonneg i,hx, ?_⟩
   have bad: ¬ (48≤c.toNat∧c.toNat≤57)→ZaL s=5:=by
    intro h
    have:cnB s=false:=by
     cases hb:cnB s with
     |false=>rfl
     |true=>exact absurd (hc▸(ZnG.1 hb).2.1 _ (List.getElem_mem hlt)) h
    simp only[ZaL,this]
   refine ZaX (ZaW rfl ?_)
   iterate 3 refine Zab ?_
   cases h1:decide (((c.toNat:Nat):Int)<48)with
   |true=>
    have h1':((c.toNat:Nat):Int)<48:=of_decide_eq_true h1
    iterate 2 refine Zap rfl ?_
    refine ZaK rfl ?_
    refine ZbW ?_
    refine brT rfl ?_
    exact congrArg (SV.v (.i .i64)) (bad (by omega)).symm
   |false=>
    have h1': ¬ ((c.toNat:Nat):Int)<48:=of_decide_eq_false h1
    iterate 2 refine Zac rfl ?_
    refine Zat rfl ?_
    refine ZbW ?_
    refine And.intro (fun h2=> ?_) (fun h2=> ?_)
    ·have h2':(57:Int)<((c.toNat:Nat):Int):=of_decide_eq_true h2
     exact congrArg (SV.v (.i .i64)) (bad (by omega)).symm
    ·have h2': ¬ (57:Int)<((c.toNat:Nat):Int):=of_decide_eq_false h2
     have wi:IntKind.i64.wrap ((i:Int)+1)=((i+1:Nat):Int):=Zar (by omega) (by omega)
     refine⟨i+1,⟨hlt, ?_⟩,by show s.length-(i+1)<s.length-i;omega, ?_⟩
     ·rw[List.take_succ_eq_append_getElem hlt]
      refine hd.app ?_
      intro x hx
      rw[List.mem_singleton.1 hx,hc];omega
     ·refine ZaC rfl rfl ?_ ?_
      ·exact⟨rfl,rfl,rfl,wi.symm,trivial⟩
      ·exact trivial
  ·have he:i=s.length:=by have h': ¬ (i:Int)<(s.length:Int):=of_decide_eq_false h;omega
   subst he
   rw[List.take_length]at hd
   have hdB:=Zn4.2 hd
   refine ZaX (ZiG rfl (ZaX (ZaW rfl ?_)))
   have large:cnB s=true→(2000:Int)<(s.length:Int)→ZaL s=2:=fun h1 h2=>by
    have hb:Nat.ble s.length 2000=false:=by
     cases hb:Nat.ble s.length 2000 with
     |false=>rfl
     |true=>have:=Nat.le_of_ble_eq_true hb;omega
    simp only[ZaL,h1,hb]
   have fine:cnB s=true→ ¬ (2000:Int)<(s.length:Int)→ZaL s=0:=fun h1 h2=>by
    simp only[ZaL,h1,Nat.ble_eq_true_of_le (show s.length≤2000 by omega)]
   have bad:cnB s=false→ZaL s=5:=fun h=>by simp only[ZaL,h]
   iterate 3 refine Zab ?_
   cases h1:(s==([]:List UInt8))with
   |true=>
    have h1':s=[]:=by simpa using h1
    iterate 4 refine Zap rfl ?_
    iterate 3 refine ZhT ?_
    refine Zap rfl ?_
    refine ZaK rfl ?_
    refine Zab ?_
    refine ZbW ?_
    refine brT rfl ?_
    exact congrArg (SV.v (.i .i64)) (bad (by subst h1';rfl)).symm
   |false=>
    have h1':s≠ []:=by simpa using h1
    have hem:s.isEmpty=false:=by simpa using h1'
    iterate 3 refine Zac rfl ?_
    refine Zac rfl ?_
    cases h2:decide ((1:Int)<(s.length:Int))with
    |true=>
     have h2':(1:Int)<(s.length:Int):=of_decide_eq_true h2
     obtain⟨c,r,hs⟩: ∃c r,s=c::r:=by
      cases s with
      |nil=>exact absurd rfl h1'
      |cons c r=>exact⟨c,r,rfl⟩
     have hd1:decide (1<s.length)=true:=decide_eq_true (by omega)
     have hcb:cnB s= !decide (((c.toNat:Nat):Int)=48):=by
      simp only[cnB,hdB,hem,hd1,Bool.true_and,Bool.not_false]
      congr 1
      rw[hs,List.head?_cons]
      by_cases h:c=48
      ·subst h;rfl
      ·have h3: ¬ ((c.toNat:Nat):Int)=48:=fun h4=>h (UInt8.toNat_inj.1 (by show c.toNat=48;omega))
       rw[decide_eq_false h3]
       simp[h]
     refine Zac rfl ?_
     refine Zmz (x:=c) rfl rfl rfl rfl (fun _=>rfl) (Int.le_refl 0) (by rw[hs];rfl) rfl rfl ?_
     refine Zac rfl ?_
     refine ZbE rfl rfl rfl rfl rfl rfl rfl rfl rfl rfl ?_
     refine Zat rfl ?_
     refine Zab ?_
     refine ZbW ?_
     refine And.intro (fun h3=> ?_) (fun h3=> ?_)
     ·have h3':decide (((c.toNat:Nat):Int)=48)=true:=h3
      exact congrArg (SV.v (.i .i64)) (bad (by rw[hcb,h3'];rfl)).symm
     ·have h3':decide (((c.toNat:Nat):Int)=48)=false:=h3
      refine And.intro (fun h4=> ?_) (fun h4=> ?_)
      ·have h4':(2000:Int)<(s.length:Int):=of_decide_eq_true h4
       exact congrArg (SV.v (.i .i64)) (large (by rw[hcb,h3'];rfl) h4').symm
      ·have h4': ¬ (2000:Int)<(s.length:Int):=of_decide_eq_false h4
       exact congrArg (SV.v (.i .i64)) (fine (by rw[hcb,h3'];rfl) h4').symm
    |false=>
     have h2': ¬ (1:Int)<(s.length:Int):=of_decide_eq_false h2
     have hd1:decide (1<s.length)=false:=decide_eq_false (by omega)
     have hcb:cnB s=true:=by simp only[cnB,hdB,hem,hd1,Bool.true_and,Bool.false_and,Bool.not_false,Bool.and_self]
     iterate 3 refine Zap rfl ?_
     refine ZcS rfl rfl rfl rfl rfl rfl rfl rfl rfl rfl ?_
     refine Zat rfl ?_
     refine Zab ?_
     refine ZbW ?_
     refine brF rfl ?_
     refine And.intro (fun h4=> ?_) (fun h4=> ?_)
     ·have h4':(2000:Int)<(s.length:Int):=of_decide_eq_true h4
      omega
     ·exact congrArg (SV.v (.i .i64)) (fine hcb (by omega)).symm
 ·exact⟨Nat.zero_le _,fun c hc=>by simp at hc⟩
 ·refine ZaC rfl rfl ?_ ?_
  ·exact⟨rfl,rfl,by rw[←hbl];rfl,rfl,trivial⟩
  ·exact trivial
def Zw8 (a b:List UInt8):SV:=match decide (Zjd a b=0)with
 |true=> .tup [IS (dec a:Nat),IS (dec b:Nat), .v (.i .i64) (0:Int)]
 |false=> .tup [.agg [.v .b false, .nils], .agg [.v .b false, .nils], .v (.i .i64) (Zjd a b)]
set_option maxHeartbeats 8000000 in
theorem Zzf (a b:List UInt8) (hla:a.length≤9223372036854775806) (hlb:b.length≤9223372036854775806):PureOK Tryz.prog Zao 58 [.v .s a, .v .s b] (fun V=>V=Zw8 a b):=by
 refine Zae Zah Tryz.func58 ?_
 refine Zaz Zah rfl (fun(i:Nat)=> [(0, .v .s a),(1, .v .s b),(4, .ptr 0 0 0),(5, .ptr 1 0 0),(12, .agg [.v .s a, .v .s b]),(13, .v (.i .i64) (i:Int))]) (fun _=> [.cell [.v .b false, .nils] true, .cell [.v .b false, .nils] true])
  (fun i=>i≤2∧(1≤i→ZaL a=0)∧(2≤i→ZaL b=0)) (fun i=>2-i) ?_ 0 ?_ ?_
 ·rintro i ⟨hi,h1,h2⟩
  rcases(show i=0∨i=1∨i=2 by omega)with rfl|rfl|rfl
  ·refine brT rfl ?_
   refine And.intro ⟨by decide,by decide⟩ ?_
   refine(ZeM a hla).mono ?_
   rintro _ rfl
   refine And.intro (fun h=> ?_) (fun h=> ?_)
   ·have h':(!decide (ZaL a=0))=true:=h
    have he:decide (ZaL a=0)=false:=by cases hd:decide (ZaL a=0)<;>simp[hd]at h'⊢
    have hE:Zjd a b=ZaL a:=by simp only[Zjd,he]
    refine⟨rfl,rfl,rfl,rfl, ?_⟩
    simp only[Zw8,hE,he]
    rfl
   ·have h':(!decide (ZaL a=0))=false:=h
    have he:ZaL a=0:=by simpa using h'
    refine⟨1,⟨by decide,fun _=>he,fun h=>absurd h (by decide)⟩,by decide, ?_⟩
    refine ZaC rfl rfl ?_ ?_
    ·exact⟨rfl,rfl,⟨rfl,rfl⟩,⟨rfl,rfl⟩,⟨rfl,rfl,trivial⟩,rfl,trivial⟩
    ·exact⟨⟨⟨rfl,trivial,trivial⟩,fun _=>rfl⟩,⟨⟨rfl,trivial,trivial⟩,fun _=>rfl⟩,trivial⟩
  ·have ha:=h1 (by decide)
   refine brT rfl ?_
   refine And.intro ⟨by decide,by decide⟩ ?_
   refine(ZeM b hlb).mono ?_
   rintro _ rfl
   have hE:Zjd a b=ZaL b:=by simp only[Zjd,ha,decide_true]
   refine And.intro (fun h=> ?_) (fun h=> ?_)
   ·have h':(!decide (ZaL b=0))=true:=h
    have he:decide (ZaL b=0)=false:=by cases hd:decide (ZaL b=0)<;>simp[hd]at h'⊢
    refine⟨rfl,rfl,rfl,rfl, ?_⟩
    simp only[Zw8,hE,he]
    rfl
   ·have h':(!decide (ZaL b=0))=false:=h
    have he:ZaL b=0:=by simpa using h'
    refine⟨2,⟨by decide,fun _=>ha,fun _=>he⟩,by decide, ?_⟩
    refine ZaC rfl rfl ?_ ?_
    ·exact⟨rfl,rfl,⟨rfl,rfl⟩,⟨rfl,rfl⟩,⟨rfl,rfl,trivial⟩,rfl,trivial⟩
    ·exact⟨⟨⟨rfl,trivial,trivial⟩,fun _=>rfl⟩,⟨⟨rfl,trivial,trivial⟩,fun _=>rfl⟩,trivial⟩
  ·have ha:=ZbU (h1 (by decide))
   have hb:=ZbU (h2 (by decide))
   have hE:Zjd a b=0:=by simp only[Zjd,h1 (by decide),decide_true,h2 (by decide)]
   refine brF rfl ?_
   refine(ZsO false a ha.1.2.1 (by omega)).mono ?_
   rintro _ rfl
   refine(ZsO false b hb.1.2.1 (by omega)).mono ?_
   rintro _ rfl
   refine⟨rfl,rfl,rfl,rfl, ?_⟩
   simp only[Zw8,hE,decide_true]
   rfl
 ·exact⟨by decide,fun h=>absurd h (by decide),fun h=>absurd h (by decide)⟩
 ·refine ZaC rfl rfl ?_ ?_
  ·exact⟨rfl,rfl,⟨rfl,rfl⟩,⟨rfl,rfl⟩,⟨rfl,rfl,trivial⟩,rfl,trivial⟩
  ·exact⟨⟨⟨rfl,trivial,trivial⟩,fun _=>rfl⟩,⟨⟨rfl,trivial,trivial⟩,fun _=>rfl⟩,trivial⟩
set_option maxHeartbeats 4000000 in
theorem Zyp (n:Nat):PureOK Tryz.prog Zao 59 [IS (n:Int)] (fun V=>V= .tup [.v .s (Ztc n).1, .v (.i .i64) (Ztc n).2]):=by
 refine Zae Zah Tryz.func59 ?_
 refine And.intro rfl ?_
 refine(Zo4 n).mono ?_
 rintro _ rfl
 obtain⟨h1,h2⟩:=Zq9 n
 rw[Int.natAbs_natCast]at*
 refine And.intro (fun h=> ?_) (fun h=> ?_)
 ·have h':(!ZcA (wOf n))=true:=h
  have hb:Nat.ble (decDigits n).length 2000=false:=by rw[←h1];cases ht:ZcA (wOf n)<;>simp[ht]at h'⊢
  simp only[Ztc,hb]
  rfl
 ·have h':(!ZcA (wOf n))=false:=h
  have hb:Nat.ble (decDigits n).length 2000=true:=by rw[←h1];cases ht:ZcA (wOf n)<;>simp[ht]at h'⊢
  simp only[Ztc,hb]
  have h3:=h2 hb (decide ((n:Int)<0))
  rw[decide_eq_false (by omega)]at h3
  have h4:Zc8 false (wOf n)=decDigits n:=by
   rw[h3]
   cases decide (n=0)<;>rfl
  show SV.tup [.v .s (Zc8 (decide ((n:Int)<0)) (wOf n)), .v (.i .i64) (0:Int)]=_
  rw[decide_eq_false (by omega),h4]
end Go.Proofs.YtkhpbclcfldhmaaGreatDoor
