/-
 matrix.Identity.
-/
import Derived.Test.YtdnodlkdndfplaaGreatDoorMZ
set_option linter.constructorNameAsVariable false
set_option linter.unusedSimpArgs false
set_option linter.unusedVariables false
namespace Go.Proofs.YtdnodlkdndfplaaGreatDoor
open Go.Am Go.Tx Dv Go.Lib
set_option maxRecDepth 100000
def Zc8 (n i:Nat):List (List UInt8):=(List.replicate n [48]).set i [49]
def idP (n i:Nat):List (List (List UInt8)):=(List.range n).map fun r=>if r<i then Zc8 n r else[]
theorem ZeB (n i:Nat):(idP n i).length=n:=by rw[idP,List.length_map,List.length_range]
theorem Zso (n:Nat):List.replicate n []=idP n 0:=by
 apply List.ext_getElem
 ·rw[List.length_replicate,ZeB]
 ·intro r h1 h2
  simp only[idP,List.getElem_replicate,List.getElem_map,List.getElem_range,Nat.not_lt_zero,if_false]
theorem Zs5 {n i:Nat} (hi:i<n):(idP n i).set i (Zc8 n i)=idP n (i+1):=by
 apply List.ext_getElem
 ·rw[List.length_set,ZeB,ZeB]
 ·intro r h1 h2
  rw[List.getElem_set]
  simp only[idP,List.getElem_map,List.getElem_range]
  by_cases h:i=r
  ·subst h
   rw[if_pos rfl,if_pos (Nat.lt_succ_self i)]
  ·rw[if_neg h]
   by_cases h2:r<i
   ·rw[if_pos h2,if_pos (by omega)]
   ·rw[if_neg h2,if_neg (by omega)]
set_option maxHeartbeats 8000000 in
theorem Zmr (n:Nat) (hn:n≤40):PureOK Tryz.prog Zat 12 [.v (.i .i64) (n:Int)] (fun V=>V= .tup [.v (.l (.l .s)) (idP n n), .v (.i .i64) (0:Int)]):=by
 refine Zak Zal Tryz.func12 ?_
 have b1:decide ((n:Int)<0)=false:=decide_eq_false (by omega)
 have b2:decide ((40:Int)<(n:Int))=false:=decide_eq_false (by omega)
 repeat (first|refine Zaj ?_|refine Zaf ?_|refine Zac ?_)
 first|refine Zab (Zaa (id:=0) rfl ?_)|refine Zab (Zab (Zaa (id:=0) rfl ?_))|refine Zaa (id:=0) rfl ?_|refine Zab (Zad rfl (Zab (Zaa (id:=0) rfl ?_)))|refine Zad rfl (Zab (Zaa (id:=0) rfl ?_))
 refine Zah rfl (fun _=>rfl) rfl rfl ?_
 refine Zah rfl (fun _=>rfl) rfl rfl ?_
 refine Zam ?_
 repeat (first|refine Zaf ?_|refine Zac ?_)
 repeat (first|refine Zaj ?_|refine Zaf ?_|refine Zac ?_)
 first|refine Zab (Zaa (id:=1) rfl ?_)|refine Zab (Zab (Zaa (id:=1) rfl ?_))|refine Zaa (id:=1) rfl ?_|refine Zab (Zad rfl (Zab (Zaa (id:=1) rfl ?_)))|refine Zad rfl (Zab (Zaa (id:=1) rfl ?_))
 refine Zah rfl (fun _=>rfl) rfl rfl ?_
 refine Zah rfl (fun _=>rfl) rfl rfl ?_
 refine Zah rfl (fun _=>rfl) rfl rfl ?_
 refine Zae rfl rfl rfl b1 (fun _=>rfl) rfl rfl ?_
 refine Zae rfl rfl rfl b1 (fun _=>rfl) rfl rfl ?_
 refine Zax rfl rfl rfl b1 rfl rfl rfl ?_
 refine Zam ?_
 repeat (first|refine Zaf ?_|refine Zac ?_)
 refine And.intro (fun h=>by first|(cases h;done)|exact(nf h b2).elim) (fun _=> ?_)
 refine And.intro (show 0≤(n:Int)∧(n:Int)≤(n:Int)∧(24:Int)*(n:Int)≤281474976710656∧(n:Int)<9223372036854775808 by omega) ?_
 refine Zaw Zal rfl (fun(t:Nat×List (List (List UInt8)))=> [(0, .v (.i .i64) (n:Int)),(4, .ref 0 0 n none),(15, .v (.i .i64) (n:Int)),(16, .v (.i .i64) (t.1:Int))]) (fun t=> .many (.l .s) (ZaM 1 t.2) true::([]++(Za0 .s t.2++ [])))
  (fun t=>t.1≤n∧t.2=idP n t.1) (fun t=>n-t.1) ?_ (0,List.replicate n []) ⟨Nat.zero_le _,Zso n⟩ ?_
 ·rintro⟨i,xs⟩ ⟨hi,hxs⟩
  simp only at hi hxs
  refine And.intro (fun h=> ?_) (fun h=> ?_)
  ·have hlt:i<n:=by have h':(i:Int)<(n:Int):=of_decide_eq_true h;omega
   have w2:IntKind.i64.wrap ((i:Int)+1)=((i+1:Nat):Int):=Zan (by omega) (by omega)
   have hxl:xs.length=n:=by rw[hxs,ZeB]
   have ci:(0:Int)≤(i:Int)∧(i:Int)<(n:Nat):=by omega
   have hc:0+(i:Int).toNat<(ZaM 1 xs).length:=by rw[Za3];omega
   have hR:=ZsX [48] n (by omega)
   repeat (first|refine Zaj ?_|refine Zaf ?_|refine Zac ?_)
   first|refine Zab (Zaa (id:=6) rfl ?_)|refine Zab (Zab (Zaa (id:=6) rfl ?_))|refine Zaa (id:=6) rfl ?_|refine Zab (Zad rfl (Zab (Zaa (id:=6) rfl ?_)))|refine Zad rfl (Zab (Zaa (id:=6) rfl ?_))
   refine Zah rfl (fun _=>rfl) rfl rfl ?_
   refine Zah rfl (fun _=>rfl) rfl rfl ?_
   refine Zam ?_
   repeat (first|refine Zaf ?_|refine Zac ?_)
   repeat (first|refine Zaj ?_|refine Zaf ?_|refine Zac ?_)
   first|refine Zab (Zaa (id:=7) rfl ?_)|refine Zab (Zab (Zaa (id:=7) rfl ?_))|refine Zaa (id:=7) rfl ?_|refine Zab (Zad rfl (Zab (Zaa (id:=7) rfl ?_)))|refine Zad rfl (Zab (Zaa (id:=7) rfl ?_))
   refine Zah rfl (fun _=>rfl) rfl rfl ?_
   refine Zah rfl (fun _=>rfl) rfl rfl ?_
   refine Zmu rfl (fun _=>rfl) rfl rfl ?_
   refine Zah rfl (fun _=>rfl) rfl rfl ?_
   refine ZpY ZrL ?_
   refine Zbv rfl (Zq2 rfl rfl rfl rfl rfl ((Zkq Zhi).trans rfl) (Nat.le_refl 1) (hR.mono ?_))
   rintro _ _ _ ⟨rfl,rfl,rfl⟩
   refine ZaE rfl rfl ?_
   refine ZpY ZrL ?_
   refine Zqv rfl (fun _=>rfl) ci rfl rfl ?_
   refine Zbv rfl (And.intro hc ?_)
   refine ZgS rfl ?_
   refine Zam ?_
   repeat (first|refine Zaf ?_|refine Zac ?_)
   have hrl:(List.replicate n ([48]:List UInt8))[0+(i:Int).toNat]? =some [48]:=by rw[Int.toNat_natCast,Nat.zero_add,List.getElem?_replicate,if_pos hlt]
   repeat (first|refine Zaj ?_|refine Zaf ?_|refine Zac ?_)
   first|refine Zab (Zaa (id:=8) rfl ?_)|refine Zab (Zab (Zaa (id:=8) rfl ?_))|refine Zaa (id:=8) rfl ?_|refine Zab (Zad rfl (Zab (Zaa (id:=8) rfl ?_)))|refine Zad rfl (Zab (Zaa (id:=8) rfl ?_))
   refine Zah rfl (fun _=>rfl) rfl rfl ?_
   refine Zah rfl (fun _=>rfl) rfl rfl ?_
   refine Zqv rfl (fun _=>rfl) ci rfl rfl ?_
   refine Zwz rfl (fun _=>rfl) (List.getElem?_set_self hc) rfl rfl ?_
   refine Zah rfl (fun _=>rfl) rfl rfl ?_
   refine Zbv rfl (ZgT rfl rfl rfl rfl rfl ((Zkq (Zhi (A:= .dead))).trans rfl) rfl ci ?_)
   refine ZaE rfl rfl ?_
   refine Zbv rfl (Znc rfl rfl rfl ((Zkq (Zhi (A:= .dead))).trans rfl) rfl hrl rfl rfl rfl ?_)
   refine ZgS rfl ?_
   refine Zam ?_
   repeat (first|refine Zaf ?_|refine Zac ?_)
   have hix:i<xs.length:=by omega
   have e0:0+(i:Int).toNat=i:=by rw[Int.toNat_natCast,Nat.zero_add]
   have hst:=Zs5 hlt
   rw[←hxs]at hst
   refine⟨(i+1,xs.set i (Zc8 n i)),⟨hlt,hst⟩,by show n-(i+1)<n-i;omega, ?_⟩
   refine Ent.eqs (Zwj (Zhi (A:= .dead))) ?_
   have e1:Za0 .s xs=(Za0 .s xs).set i (.row .s xs[i] true):=by rw[Zls,List.set_getElem_self]
   have hrow:(List.replicate n ([48]:List UInt8)).set (0+(i:Int).toNat) [49]=Zc8 n i:=by rw[e0,Zc8]
   have hlen:n=(Zc8 n i).length:=by rw[Zc8,List.length_set,List.length_replicate]
   refine Ent.eqs (congrArg (fun z=>_::([]++(z++_))) e1) ?_
   exact Zsj (e:=1) e0 hlen rfl hix (Zhi (A:= .dead)) (congrArg (fun z=>some (SM.row .s z true)) hrow) (Nat.zero_le _) (fun _ h=>absurd h List.not_mem_nil)
    ⟨rfl,rfl,rfl,rfl,rfl,rfl,congrArg (fun x=>some (SV.v (.i .i64) x)) w2,rfl,trivial⟩
  ·have hi2:i=n:=by have h': ¬ (i:Int)<(n:Int):=of_decide_eq_false h;omega
   have hxn:xs=idP n n:=by rw[hxs,hi2]
   have hfin:Zh9 (.many (.l .s) (ZaM 1 xs) true::([]++(Za0 .s xs++ []))) (36+3) (.ref 0 0 n none) (fun V=>SV.tup [V, .v (.i .i64) (0:Int)]=SV.tup [.v (.l (.l .s)) (idP n n), .v (.i .i64) (0:Int)]):=ZmT rfl (by rw[hxs,ZeB]) (by rw[hxn])
   exact hfin
 ·exact Ztw rfl (Nat.zero_le _) ⟨rfl,rfl,rfl,rfl,rfl,rfl,rfl,rfl,trivial⟩
theorem ZlX (n:Int) (hn:n<0∨40<n):PureOK Tryz.prog Zat 12 [.v (.i .i64) n] (fun V=>V= .tup [.nils, .v (.i .i64) (4:Int)]):=by
 refine Zak Zal Tryz.func12 ?_
 cases b1:decide (n<0)with
 |true=>
  repeat (first|refine Zaj ?_|refine Zaf ?_|refine Zac ?_)
  first|refine Zab (Zaa (id:=0) rfl ?_)|refine Zab (Zab (Zaa (id:=0) rfl ?_))|refine Zaa (id:=0) rfl ?_|refine Zab (Zad rfl (Zab (Zaa (id:=0) rfl ?_)))|refine Zad rfl (Zab (Zaa (id:=0) rfl ?_))
  refine Zah rfl (fun _=>rfl) rfl rfl ?_
  refine Zah rfl (fun _=>rfl) rfl rfl ?_
  refine Zam ?_
  repeat (first|refine Zaf ?_|refine Zac ?_)
  repeat (first|refine Zaj ?_|refine Zaf ?_|refine Zac ?_)
  first|refine Zab (Zaa (id:=1) rfl ?_)|refine Zab (Zab (Zaa (id:=1) rfl ?_))|refine Zaa (id:=1) rfl ?_|refine Zab (Zad rfl (Zab (Zaa (id:=1) rfl ?_)))|refine Zad rfl (Zab (Zaa (id:=1) rfl ?_))
  refine Zah rfl (fun _=>rfl) rfl rfl ?_
  refine Zah rfl (fun _=>rfl) rfl rfl ?_
  refine Zah rfl (fun _=>rfl) rfl rfl ?_
  refine Zag rfl rfl rfl b1 rfl rfl ?_
  refine Zag rfl rfl rfl b1 rfl rfl ?_
  refine ZaG rfl rfl rfl b1 rfl rfl rfl ?_
  refine Zam ?_
  repeat (first|refine Zaf ?_|refine Zac ?_)
  exact And.intro (fun _=>rfl) (fun h=>by first|(cases h;done)|exact(nf b1 h).elim)
 |false=>
  have b2:decide ((40:Int)<n)=true:=decide_eq_true (by have:=of_decide_eq_false b1;omega)
  repeat (first|refine Zaj ?_|refine Zaf ?_|refine Zac ?_)
  first|refine Zab (Zaa (id:=0) rfl ?_)|refine Zab (Zab (Zaa (id:=0) rfl ?_))|refine Zaa (id:=0) rfl ?_|refine Zab (Zad rfl (Zab (Zaa (id:=0) rfl ?_)))|refine Zad rfl (Zab (Zaa (id:=0) rfl ?_))
  refine Zah rfl (fun _=>rfl) rfl rfl ?_
  refine Zah rfl (fun _=>rfl) rfl rfl ?_
  refine Zam ?_
  repeat (first|refine Zaf ?_|refine Zac ?_)
  repeat (first|refine Zaj ?_|refine Zaf ?_|refine Zac ?_)
  first|refine Zab (Zaa (id:=1) rfl ?_)|refine Zab (Zab (Zaa (id:=1) rfl ?_))|refine Zaa (id:=1) rfl ?_|refine Zab (Zad rfl (Zab (Zaa (id:=1) rfl ?_)))|refine Zad rfl (Zab (Zaa (id:=1) rfl ?_))
  refine Zah rfl (fun _=>rfl) rfl rfl ?_
  refine Zah rfl (fun _=>rfl) rfl rfl ?_
  refine Zah rfl (fun _=>rfl) rfl rfl ?_
  refine Zae rfl rfl rfl b1 (fun _=>rfl) rfl rfl ?_
  refine Zae rfl rfl rfl b1 (fun _=>rfl) rfl rfl ?_
  refine Zax rfl rfl rfl b1 rfl rfl rfl ?_
  refine Zam ?_
  repeat (first|refine Zaf ?_|refine Zac ?_)
  exact And.intro (fun _=>rfl) (fun h=>by first|(cases h;done)|exact(nf b2 h).elim)
end Go.Proofs.YtdnodlkdndfplaaGreatDoor
/-
 matrixFact: run by the kernel.
-/
namespace Go.Proofs.YtdnodlkdndfplaaGreatDoor
open Go.Am Go.Tx
set_option maxRecDepth 1000000 in
theorem Zig:Zta ((ZcD Tryz.prog Zat 400).rn 9 [] [])=true:=by decide+kernel
theorem Zks:PureOK Tryz.prog Zat 9 [] (fun V=>V= .v .b true):=by
 refine⟨fun qs hr=> ?_⟩
 simp only[RL]at hr
 subst hr
 have h:=Zig
 cases hx:(ZcD Tryz.prog Zat 400).rn 9 [] []with
 |none=>rw[hx]at h;cases h
 |some x=>
  obtain⟨v,H⟩:=x
  rw[hx]at h
  have hv:v= .bool true:=by
   cases v<;>first|(cases h;done)|skip
   rename_i b
   cases b<;>first|rfl|cases h
  subst hv
  have hl:=ZwH hx
  refine⟨.bool true, .v .b true, ?_,by simp only[RV,RR],rfl⟩
  show((lim Tryz.prog Zat).rn 9 [] []).bind _=_
  rw[hl]
  rfl
end Go.Proofs.YtdnodlkdndfplaaGreatDoor
