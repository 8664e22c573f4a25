/-
 Islands that swing: one step, their momentum.
-/
import Derived.Test.YtkhpbclcfldhmaaGreatDoorQ7
import Derived.Test.YtkhpbclcfldhmaaGreatDoorGb
set_option linter.constructorNameAsVariable false
set_option linter.unusedSimpArgs false
set_option linter.unusedVariables false
namespace Go.Proofs.YtkhpbclcfldhmaaGreatDoor
open Go.Am Go.Tx Dv Go.Lib
set_option maxRecDepth 100000
abbrev Tx8:=List UInt8
theorem Zgg {n:Nat} (h:n<1000000000):(decDigits n).length≤2000:=Nat.le_trans ((ZcP (k:=9) (by decide)).2 (Nat.lt_of_lt_of_le h (by decide))) (by decide)
theorem Zd2 {n:Int} (h:n.natAbs<1000000000):Ze1 (n:Rat)=true:=Zea.2 ⟨Zgg h,Zgg (by decide:1<1000000000)⟩
theorem Zk0 {n d:Int} (h:n.natAbs<1000000000) (hd0:0<d) (hd:d<1000000000):Ze1 (Rat.divInt n d)=true:=by
 obtain⟨e1,e2⟩:=Zez (n:=n) (d:=d) hd0
 refine Zea.2 ⟨Zgg ?_,Zgg ?_⟩
 ·rw[e1]
  have:=Int.natAbs_ediv_le_natAbs n (Int.gcd n d:Int)
  omega
 ·have:=Int.ediv_le_self (a:=d) (Int.gcd n d:Int) (by omega)
  omega
theorem Zfd {q:Rat} (h:Ze1 q=true):szQ q 2000:=Zrb h
def qc (q:Rat):List SV:=[.v .b (decide (q.num<0)),Za8 (wOf q.num.natAbs), .v .b (decide ((q.den:Int)<0)),Za8 (wOf (q.den:Int).natAbs)]
def swC (I S M:Int) (f:Tx8):List SV:=[.v IC I, .v IC (0:Int), .v IC S, .v IC M, .v .s f]
theorem ZhN (n:Int) (h0: -9223372036854775808≤n) (h1:n<9223372036854775808):PureOK Tryz.prog Zao 28 [.v IC n] (fun V=>V=QR (n:Rat)):=ZwO n h0 h1
theorem Zkj (n lo hi:Int):PureOK Tryz.prog Zao 17 [.v IC n, .v IC lo, .v IC hi] (fun V=>V= .v .b (decide (n<lo)||decide (hi<n))):=by
 refine Zae Zah Tryz.func17 ?_
 cases h1:decide (n<lo)with
 |true=>
  refine Zag ?_
  refine Zab ?_
  refine Zaf ?_
  refine Zag ?_
  iterate 4 refine Zab ?_
  refine Zap h1 ?_
  refine Zap h1 ?_
  refine Zap h1 ?_
  refine ZaK h1 ?_
  refine Zab ?_
  refine Zaf ?_
  rfl
 |false=>
  refine Zag ?_
  refine Zab ?_
  refine Zaf ?_
  refine Zag ?_
  iterate 4 refine Zab ?_
  refine Zac h1 ?_
  refine Zac h1 ?_
  refine Zac h1 ?_
  refine Zat h1 ?_
  refine Zab ?_
  refine Zaf ?_
  rfl
def ZpT (M:Int):Int:=match decide (100000<M)with
 |true=>4
 |false=>0
set_option maxHeartbeats 16000000 in
theorem Zgm (I S M:Int) (f:Tx8) (hI:1≤I∧I≤1000) (hS:0≤S∧S≤100000) (hM:0≤M) (hf:ZbK f=0) (hl:f.length≤9223372036854775806):PureOK Tryz.prog Zao 9 [.agg (swC I S M f)] (fun V=>V= .v IC (ZpT M)):=by
 refine Zae Zah Tryz.func9 ?_
 have o1:=Zkj I 1 1000
 have o2:=Zkj 0 0 I
 have o3:=Zkj S 0 100000
 have o4:=Zkj M 0 100000
 have c1:(decide (I<1)||decide (1000<I))=false:=by rw[decide_eq_false (by omega),decide_eq_false (by omega)];rfl
 have c2:(decide ((0:Int)<0)||decide (I<0))=false:=by rw[decide_eq_false (by omega),decide_eq_false (by omega)];rfl
 have c3:(decide (S<0)||decide (100000<S))=false:=by rw[decide_eq_false (by omega),decide_eq_false (by omega)];rfl
 have c4:(decide (M<0)||decide (100000<M))=decide (100000<M):=by rw[decide_eq_false (by omega)];rfl
 rw[c4]at o4
 have hR:=ZoM f hl
 rw[hf]at hR
 cases h4:decide (100000<M)with
 |true=>
  have e:ZpT M=4:=by rw[ZpT,h4]
  rw[e]
  refine Zag ?_
  refine Zbq ?_
  refine Zab ?_
  refine Zaf ?_
  refine Zag ?_
  refine Zab ?_
  refine Zaf ?_
  refine Zag ?_
  iterate 2 refine Zab ?_
  refine Zak rfl (fun _=>rfl) rfl rfl rfl ?_
  refine Zad rfl ((o1).mono ?_)
  rintro _ rfl
  refine Zaa rfl rfl ?_
  refine Zab ?_
  refine Zac c1 ?_
  refine Zac c1 ?_
  refine Zam rfl rfl rfl c1 (fun _=>rfl) rfl rfl rfl ?_
  refine Zac c1 ?_
  refine Zam rfl rfl rfl c1 (fun _=>rfl) rfl rfl rfl ?_
  refine Zaw rfl rfl rfl c1 ((o2).mono ?_)
  rintro _ rfl
  refine Zaa rfl rfl ?_
  refine Zat c1 ?_
  refine Zab ?_
  refine Zac c2 ?_
  refine Zac c2 ?_
  refine Zam rfl rfl rfl c2 (fun _=>rfl) rfl rfl rfl ?_
  refine Zaw rfl rfl rfl c2 ((o3).mono ?_)
  rintro _ rfl
  refine Zaa rfl rfl ?_
  refine Zat c2 ?_
  refine Zab ?_
  refine Zac c3 ?_
  refine Zac c3 ?_
  refine Zam rfl rfl rfl c3 (fun _=>rfl) rfl rfl rfl ?_
  refine Zaw rfl rfl rfl c3 ((o4).mono ?_)
  rintro _ rfl
  refine Zaa rfl rfl ?_
  refine Zat c3 ?_
  refine Zaf ?_
  refine brT h4 ?_
  refine Zag ?_
  refine Zab ?_
  refine Zaf ?_
  rfl
 |false=>
  have e:ZpT M=0:=by rw[ZpT,h4]
  rw[e]
  refine Zag ?_
  refine Zbq ?_
  refine Zab ?_
  refine Zaf ?_
  refine Zag ?_
  refine Zab ?_
  refine Zaf ?_
  refine Zag ?_
  iterate 2 refine Zab ?_
  refine Zak rfl (fun _=>rfl) rfl rfl rfl ?_
  refine Zad rfl ((o1).mono ?_)
  rintro _ rfl
  refine Zaa rfl rfl ?_
  refine Zab ?_
  refine Zac c1 ?_
  refine Zac c1 ?_
  refine Zam rfl rfl rfl c1 (fun _=>rfl) rfl rfl rfl ?_
  refine Zac c1 ?_
  refine Zam rfl rfl rfl c1 (fun _=>rfl) rfl rfl rfl ?_
  refine Zaw rfl rfl rfl c1 ((o2).mono ?_)
  rintro _ rfl
  refine Zaa rfl rfl ?_
  refine Zat c1 ?_
  refine Zab ?_
  refine Zac c2 ?_
  refine Zac c2 ?_
  refine Zam rfl rfl rfl c2 (fun _=>rfl) rfl rfl rfl ?_
  refine Zaw rfl rfl rfl c2 ((o3).mono ?_)
  rintro _ rfl
  refine Zaa rfl rfl ?_
  refine Zat c2 ?_
  refine Zab ?_
  refine Zac c3 ?_
  refine Zac c3 ?_
  refine Zam rfl rfl rfl c3 (fun _=>rfl) rfl rfl rfl ?_
  refine Zaw rfl rfl rfl c3 ((o4).mono ?_)
  rintro _ rfl
  refine Zaa rfl rfl ?_
  refine Zat c3 ?_
  refine Zaf ?_
  refine brF h4 ?_
  refine Zag ?_
  refine Zab ?_
  refine Zak rfl (fun _=>rfl) rfl rfl rfl ?_
  refine Zad rfl ((hR).mono ?_)
  rintro _ rfl
  refine Zaa rfl rfl ?_
  refine Zab ?_
  refine Zaf ?_
  rfl
theorem Zo9 (q:Rat) (hq:Ze1 q=true):PureOK Tryz.prog Zao 19 [.agg (qc q)] (fun V=>V= .tup [.v .s (ZcH q),nt 0]):=by
 refine Zae Zah Tryz.func19 ?_
 have hT:=Zrq q
 rw[hq]at hT
 refine Zag ?_
 refine Zbq ?_
 iterate 2 refine Zab ?_
 refine Zaf ?_
 refine Zag ?_
 refine Zak rfl (fun _=>rfl) rfl rfl rfl ?_
 refine Zad rfl ((hT).mono ?_)
 rintro _ ⟨X,rfl,hX⟩
 refine Zaa rfl rfl ?_
 iterate 5 refine Zab ?_
 refine Zaf ?_
 refine Zag ?_
 iterate 2 refine Zab ?_
 refine Zaf ?_
 refine brF rfl ?_
 refine Zag ?_
 iterate 3 refine Zab ?_
 refine Zaf ?_
 rw[hX rfl]
 rfl
set_option maxHeartbeats 16000000 in
theorem ZxA (I S M:Int) (f:Tx8) (hS:0≤S∧S≤100000) (hM:0≤M∧M≤100000):PureOK Tryz.prog Zao 26 [.agg (swC I S M f), .agg (qc 0)] (fun V=>V= .agg (qc ((S-M:Int):Rat))):=by
 refine Zae Zah Tryz.func26 ?_
 have hw:IntKind.i64.wrap (S-M)=S-M:=Zar (by omega) (by omega)
 have h1:PureOK Tryz.prog Zao 28 [.v IC (IntKind.i64.wrap (S-M))] (fun V=>V=QR ((S-M:Int):Rat)):=by rw[hw];exact ZhN (S-M) (by omega) (by omega)
 have h2:=ZhN 0 (by decide) (by decide)
 have f1:Ze1 ((S-M:Int):Rat)=true:=Zd2 (by omega)
 have hz:((0:Int):Rat)*(0:Rat)=0:=by simp
 have h3:=ZuW ((0:Int):Rat) 0 (by decide:2000≤100000) (Zfd Zdh) (Zfd Zdh)
 rw[hz]at h3
 have h4:=ZxW ((S-M:Int):Rat) 0 (by decide:2000≤100000) (Zfd f1) (Zfd Zdh)
 have e:((S-M:Int):Rat)-(0:Rat)=((S-M:Int):Rat):=by rw[Rat.sub_eq_add_neg];exact Rat.add_zero _
 rw[e]at h4
 refine Zag ?_
 refine Zbq ?_
 refine Zbq ?_
 refine Zbq ?_
 refine Zaf ?_
 refine Zag ?_
 refine Zab ?_
 refine Zak rfl (fun _=>rfl) rfl rfl rfl ?_
 refine Zab ?_
 refine Zak rfl (fun _=>rfl) rfl rfl rfl ?_
 refine Zab ?_
 refine Zad rfl ((h1).mono ?_)
 rintro _ rfl
 refine Zaa rfl rfl ?_
 refine Zab ?_
 refine Zak rfl (fun _=>rfl) rfl rfl rfl ?_
 refine Zad rfl ((h2).mono ?_)
 rintro _ rfl
 refine Zaa rfl rfl ?_
 refine Zak rfl (fun _=>rfl) rfl rfl rfl ?_
 refine Zad rfl ((h3).mono ?_)
 rintro _ rfl
 refine Zaa rfl rfl ?_
 refine Zad rfl ((h4).mono ?_)
 rintro _ rfl
 refine Zaa rfl rfl ?_
 refine Zad rfl (Zax rfl rfl rfl rfl rfl rfl rfl rfl ?_)
 refine Zau rfl ?_
 refine Zaf ?_
 exact⟨rfl,rfl⟩
theorem ZzH {n I:Int}:((n:Int):Rat)/(I:Rat)=Rat.divInt n I:=(Rat.divInt_eq_div n I).symm
theorem ZzN {n I:Int} (hI:0<I):(I:Rat)*Rat.divInt n I=(n:Rat):=by
 have h0:(I:Rat)≠0:=by
  intro h
  have:(I:Rat).num=0:=by rw[h];rfl
  have:I=0:=this
  omega
 rw[←ZzH,Rat.mul_comm,Rat.div_mul_cancel h0]
def ZzO (k:Nat):TM:=[(2, .ptr 0 0 0),(7, .ptr 1 0 0),(8, .ref 2 0 k none),(25,nt 1),(26,nt k)]
def ZzR (I S M:Int) (k:Nat):List SM:=[.cell (swC I S M [48]) true, .cell (qc (bif Nat.beq k 0 then 0 else Rat.divInt (S-M) I)) true, .row .s (List.replicate k (ZcH (Rat.divInt (S-M) I))) true]
set_option maxHeartbeats 16000000 in
theorem Zwe (I S M:Int) (hI:1≤I∧I≤1000) (hS:0≤S∧S≤100000) (hM:0≤M∧M≤100000):PureOK Tryz.prog Zao 13 [.agg (swC I S M [48]), .v IC (1:Int)] (fun V=>V= .tup [.v (.l .s) [ZcH (Rat.divInt (S-M) I)],nt 0]):=by
 refine Zae Zah Tryz.func13 ?_
 have r48:ZbK [48]=0:=by rw[←Zer];exact Zcj Zdh
 have eM:ZpT M=0:=by rw[ZpT,decide_eq_false (by omega)]
 have hC:=Zgm I S M [48] hI hS hM.1 r48 (by decide)
 rw[eM]at hC
 have hP:=ZkP 0 Zdh
 rw[Zer]at hP
 have hE:=ZxA I S M [48] hS hM
 have hW:=ZhN I (by omega) (by omega)
 have f1:Ze1 ((S-M:Int):Rat)=true:=Zd2 (by omega)
 have f2:Ze1 ((I:Int):Rat)=true:=Zd2 (by omega)
 have f3:Ze1 (Rat.divInt (S-M) I)=true:=Zk0 (by omega) (by omega) (by omega)
 have h0:(I:Rat)≠0:=by
  intro h
  have:(I:Rat).num=0:=by rw[h];rfl
  have:I=0:=this
  omega
 have hD:=Zxu ((S-M:Int):Rat) (I:Rat) (by decide:2000≤100000) (Zfd f1) (Zfd f2) h0
 rw[ZzH]at hD
 have hA:=ZrI 0 (Rat.divInt (S-M) I) (by decide:2000≤100000) (Zfd Zdh) (Zfd f3)
 rw[Rat.zero_add]at hA
 have hT:=Zo9 _ f3
 obtain⟨q,hq⟩: ∃q,Rat.divInt (S-M) I=q:=⟨_,rfl⟩
 refine Zag ?_
 refine Zbq ?_
 iterate 2 refine Zab ?_
 refine Zaf ?_
 refine Zag ?_
 refine Zak rfl (fun _=>rfl) rfl rfl rfl ?_
 refine Zad rfl ((hC).mono ?_)
 rintro _ rfl
 refine Zaa rfl rfl ?_
 refine Zab ?_
 refine Zaf ?_
 refine Zag ?_
 iterate 2 refine Zab ?_
 refine Zaf ?_
 refine brF rfl ?_
 refine Zag ?_
 iterate 3 refine Zab ?_
 refine Zac rfl ?_
 refine Zac rfl ?_
 refine Zat rfl ?_
 refine Zaf ?_
 refine brF rfl ?_
 refine Zag ?_
 refine Zab ?_
 refine Zak rfl (fun _=>rfl) rfl rfl rfl ?_
 refine Zad rfl ((hP).mono ?_)
 rintro _ rfl
 refine Zaa rfl rfl ?_
 refine Zbq ?_
 refine Zad rfl (Zax rfl rfl rfl rfl rfl rfl rfl rfl ?_)
 refine Zau rfl ?_
 refine Zaf ?_
 refine Zag ?_
 refine Zab ?_
 refine Zaf ?_
 refine Zag ?_
 iterate 2 refine Zab ?_
 refine Zaf ?_
 refine Zaz Zah rfl ZzO (ZzR I S M) (fun k=>k≤1) (fun k=>1-k) ?_ 0 (by decide) ?_
 case refine_2=>
  refine Ent.trans (tm1:=[(8, .nils),(2, .ptr 0 0 0),(7, .ptr 1 0 0),(25,nt 1),(26,nt 0)]) (hp1:=[.cell (swC I S M [48]) true, .cell (qc 0) true]) (ZaI [0,1] ⟨rfl,rfl,rfl,rfl,trivial⟩ (by decide) ⟨rfl,fun _ h=>absurd h List.not_mem_nil,rfl,ZaZ (by show 0<2;omega),rfl,ZaZ (by show 1<2;omega),rfl,ZaA,rfl,ZaA,trivial⟩) ?_
  refine(Zij (k:=8) (ct:= .s) (r:=[(2, .ptr 0 0 0),(7, .ptr 1 0 0),(25,nt 1),(26,nt 0)]) (Nat.zero_le _) rfl ⟨rfl,rfl,rfl,rfl,trivial⟩).trans ?_
  exact Zaq ⟨rfl,rfl,rfl,rfl,rfl,trivial⟩
 intro k hk
 cases k with
 |succ k=>
  have e:k=0:=by omega
  subst e
  refine Zag ?_
  refine Zab ?_
  refine Zaf ?_
  refine brF rfl ?_
  show wp _ _ _ _ _ _ _ _ _
  refine Zag ?_
  iterate 3 refine Zab ?_
  refine Zaf ?_
  exact⟨Nat.le_refl 1,rfl⟩
 |zero=>
  refine Zag ?_
  refine Zab ?_
  refine Zaf ?_
  refine brT rfl ?_
  refine Zag ?_
  refine Zak rfl (fun _=>rfl) rfl rfl rfl ?_
  refine Zak rfl (fun _=>rfl) rfl rfl rfl ?_
  refine Zak rfl (fun _=>rfl) rfl rfl rfl ?_
  refine Zad rfl ((hE).mono ?_)
  rintro _ rfl
  refine Zaa rfl rfl ?_
  refine Zab ?_
  refine Zak rfl (fun _=>rfl) rfl rfl rfl ?_
  refine Zad rfl ((hW).mono ?_)
  rintro _ rfl
  refine Zaa rfl rfl ?_
  refine Zad rfl ((hD).mono ?_)
  rintro _ rfl
  refine Zaa rfl rfl ?_
  refine Zad rfl ((hA).mono ?_)
  rintro _ rfl
  refine Zaa rfl rfl ?_
  refine Zad rfl (Zax rfl rfl rfl rfl rfl rfl rfl rfl ?_)
  refine Zau rfl ?_
  refine Zaf ?_
  refine Zag ?_
  refine Zak rfl (fun _=>rfl) rfl rfl rfl ?_
  refine Zad rfl ((hT).mono ?_)
  rintro _ rfl
  refine Zaa rfl rfl ?_
  iterate 5 refine Zab ?_
  refine Zaf ?_
  refine Zag ?_
  iterate 2 refine Zab ?_
  refine Zaf ?_
  refine brF rfl ?_
  refine Zag ?_
  iterate 2 refine Zab ?_
  refine Zbq ?_
  refine Zad rfl (Zh0 rfl rfl rfl rfl rfl rfl rfl rfl rfl rfl rfl rfl (by decide) ?_)
  refine Zaa rfl rfl ?_
  refine Zab ?_
  refine Zaf ?_
  refine Zag ?_
  iterate 2 refine Zab ?_
  refine Zaf ?_
  exact⟨1,Nat.le_refl 1,Nat.lt_succ_self 0,ZaI [0,1,4] ⟨rfl,rfl,rfl,rfl,rfl,rfl,trivial⟩ (by decide) ⟨rfl,ZaZ (by show 0<3;omega),rfl,ZaZ (by show 1<3;omega),rfl,ZaY (by show 2<3;omega),rfl,ZaA,rfl,ZaA,trivial⟩⟩
theorem Zv9 (I S M:Int) (hI:1≤I∧I≤1000) (hS:0≤S∧S≤100000) (hM:100000<M):PureOK Tryz.prog Zao 13 [.agg (swC I S M [48]), .v IC (1:Int)] (fun V=>V= .tup [.nils, .v IC (4:Int)]):=by
 refine Zae Zah Tryz.func13 ?_
 have r48:ZbK [48]=0:=by rw[←Zer];exact Zcj Zdh
 have eM:ZpT M=4:=by rw[ZpT,decide_eq_true hM]
 have hC:=Zgm I S M [48] hI hS (by omega) r48 (by decide)
 rw[eM]at hC
 refine Zag ?_
 refine Zbq ?_
 iterate 2 refine Zab ?_
 refine Zaf ?_
 refine Zag ?_
 refine Zak rfl (fun _=>rfl) rfl rfl rfl ?_
 refine Zad rfl ((hC).mono ?_)
 rintro _ rfl
 refine Zaa rfl rfl ?_
 refine Zab ?_
 refine Zaf ?_
 refine Zag ?_
 iterate 2 refine Zab ?_
 refine Zaf ?_
 refine brT rfl ?_
 refine Zag ?_
 iterate 3 refine Zab ?_
 refine Zaf ?_
 rfl
theorem Zpa (I S M:Int) (hI:1≤I∧I≤1000) (hS:0≤S∧S≤100000) (hM:0≤M∧M≤100000):PureOK Tryz.prog Zao 4 [.agg (swC I S M [48])] (fun V=>V= .tup [.agg (swC I S M (ZcH (Rat.divInt (S-M) I))),nt 0]):=by
 refine Zae Zah Tryz.func4 ?_
 have hR:=Zwe I S M hI hS hM
 refine Zag ?_
 refine Zbq ?_
 refine Zbq ?_
 refine Zab ?_
 refine Zaf ?_
 refine Zag ?_
 refine Zak rfl (fun _=>rfl) rfl rfl rfl ?_
 refine Zad rfl ((hR).mono ?_)
 rintro _ rfl
 refine Zaa rfl rfl ?_
 iterate 5 refine Zab ?_
 refine Zaf ?_
 refine Zag ?_
 iterate 2 refine Zab ?_
 refine Zaf ?_
 refine brF rfl ?_
 refine Zag ?_
 refine Zab ?_
 refine Zb4 rfl (fun _=>rfl) (Int.le_refl 0) rfl rfl rfl ?_
 iterate 2 refine Zab ?_
 refine Zad rfl (Zax rfl rfl rfl rfl rfl rfl rfl rfl ?_)
 refine Zau rfl ?_
 refine Zaf ?_
 refine Zag ?_
 refine Zak rfl (fun _=>rfl) rfl rfl rfl ?_
 refine Zad rfl (Zax rfl rfl rfl rfl rfl rfl rfl rfl ?_)
 refine Zau rfl ?_
 refine Zab ?_
 refine Zaf ?_
 exact⟨rfl,rfl⟩
theorem ZtE (I S M:Int) (hI:1≤I∧I≤1000) (hS:0≤S∧S≤100000) (hM:100000<M):PureOK Tryz.prog Zao 4 [.agg (swC I S M [48])] (fun V=>V= .tup [.agg (swC 0 0 0 []), .v IC (4:Int)]):=by
 refine Zae Zah Tryz.func4 ?_
 have hR:=Zv9 I S M hI hS hM
 refine Zag ?_
 refine Zbq ?_
 refine Zbq ?_
 refine Zab ?_
 refine Zaf ?_
 refine Zag ?_
 refine Zak rfl (fun _=>rfl) rfl rfl rfl ?_
 refine Zad rfl ((hR).mono ?_)
 rintro _ rfl
 refine Zaa rfl rfl ?_
 iterate 5 refine Zab ?_
 refine Zaf ?_
 refine Zag ?_
 iterate 2 refine Zab ?_
 refine Zaf ?_
 refine brT rfl ?_
 refine Zag ?_
 iterate 2 refine Zab ?_
 refine Zad rfl (Zax rfl rfl rfl rfl rfl rfl rfl rfl ?_)
 refine Zau rfl ?_
 refine Zab ?_
 refine Zaf ?_
 exact⟨rfl,rfl⟩
theorem Ztv (I S M:Int) (hI:1≤I∧I≤1000) (hn: -200000≤S-M∧S-M≤200000):PureOK Tryz.prog Zao 20 [.agg (swC I S M (ZcH (Rat.divInt (S-M) I)))] (fun V=>V= .agg (qc ((S-M:Int):Rat))):=by
 refine Zae Zah Tryz.func20 ?_
 have f2:Ze1 ((I:Int):Rat)=true:=Zd2 (by omega)
 have f3:Ze1 (Rat.divInt (S-M) I)=true:=Zk0 (by omega) (by omega) (by omega)
 have hW:=ZhN I (by omega) (by omega)
 have hP:=ZkP _ f3
 have hM:=ZuW (I:Rat) (Rat.divInt (S-M) I) (by decide:2000≤100000) (Zfd f2) (Zfd f3)
 rw[ZzN (by omega)]at hM
 refine Zag ?_
 refine Zbq ?_
 refine Zbq ?_
 refine Zaf ?_
 refine Zag ?_
 refine Zab ?_
 refine Zak rfl (fun _=>rfl) rfl rfl rfl ?_
 refine Zad rfl ((hW).mono ?_)
 rintro _ rfl
 refine Zaa rfl rfl ?_
 refine Zab ?_
 refine Zak rfl (fun _=>rfl) rfl rfl rfl ?_
 refine Zad rfl ((hP).mono ?_)
 rintro _ rfl
 refine Zaa rfl rfl ?_
 refine Zad rfl ((hM).mono ?_)
 rintro _ rfl
 refine Zaa rfl rfl ?_
 refine Zad rfl (Zax rfl rfl rfl rfl rfl rfl rfl rfl ?_)
 refine Zau rfl ?_
 refine Zaf ?_
 exact⟨rfl,rfl⟩
theorem ZvE (I S M:Int) (hI:1≤I∧I≤1000) (hS:0≤S∧S≤100000) (hM:0≤M∧M≤100000):PureOK Tryz.prog Zao 10 [.agg (swC I S M (ZcH (Rat.divInt (S-M) I)))] (fun V=>V= .tup [.v .s (ZcH ((S-M:Int):Rat)),nt 0]):=by
 refine Zae Zah Tryz.func10 ?_
 have f3:Ze1 (Rat.divInt (S-M) I)=true:=Zk0 (by omega) (by omega) (by omega)
 have eM:ZpT M=0:=by rw[ZpT,decide_eq_false (by omega)]
 have hC:=Zgm I S M _ hI hS hM.1 (Zcj f3) (Nat.le_trans (ZnB f3) (by decide))
 rw[eM]at hC
 have h1:=Ztv I S M hI (by omega)
 have h2:=Zo9 ((S-M:Int):Rat) (Zd2 (by omega))
 refine Zag ?_
 refine Zbq ?_
 iterate 2 refine Zab ?_
 refine Zaf ?_
 refine Zag ?_
 refine Zak rfl (fun _=>rfl) rfl rfl rfl ?_
 refine Zad rfl ((hC).mono ?_)
 rintro _ rfl
 refine Zaa rfl rfl ?_
 refine Zab ?_
 refine Zaf ?_
 refine Zag ?_
 iterate 2 refine Zab ?_
 refine Zaf ?_
 refine brF rfl ?_
 refine Zag ?_
 refine Zak rfl (fun _=>rfl) rfl rfl rfl ?_
 refine Zad rfl ((h1).mono ?_)
 rintro _ rfl
 refine Zaa rfl rfl ?_
 refine Zad rfl ((h2).mono ?_)
 rintro _ rfl
 refine Zaa rfl rfl ?_
 iterate 4 refine Zab ?_
 refine Zaf ?_
 rfl
theorem Zyk (n lo hi:Int) (h0:0≤lo) (h1:lo≤hi) (h2:hi≤1000):PureOK Tryz.prog Zao 7 [.v IC n, .v IC lo, .v IC hi] (fun V=> ∃v:Int,V= .v IC v∧lo≤v∧v≤hi):=by
 refine Zae Zah Tryz.func7 ?_
 have w1:IntKind.i64.wrap (IntKind.i64.wrap (hi-lo)+1)=hi-lo+1:=by rw[Zar (x:=hi-lo) (by omega) (by omega),Zar (by omega) (by omega)]
 have hne:IntKind.i64.wrap (IntKind.i64.wrap (hi-lo)+1)≠0:=by rw[w1];omega
 have t1:=Int.tmod_lt_of_pos n (b:=hi-lo+1) (by omega)
 have t2:=Int.lt_tmod_of_pos n (b:=hi-lo+1) (by omega)
 obtain⟨r,hr⟩: ∃r,n.tmod (IntKind.i64.wrap (IntKind.i64.wrap (hi-lo)+1))=r:=⟨_,rfl⟩
 have hr':=hr
 rw[w1]at hr'
 rw[hr']at t1 t2
 refine Zag ?_
 refine Zab ?_
 refine Zaf ?_
 refine Zag ?_
 iterate 5 refine Zab ?_
 refine Zaf ?_
 refine Zag ?_
 iterate 2 refine Zab ?_
 refine Zak rfl (fun _=>rfl) hne rfl rfl ?_
 refine Zab ?_
 refine Zaf ?_
 cases h3:decide (r<0)with
 |false=>
  have h4:decide (n.tmod (IntKind.i64.wrap (IntKind.i64.wrap (hi-lo)+1))<0)=false:=by rw[hr];exact h3
  have:=of_decide_eq_false h3
  refine Zag ?_
  iterate 2 refine Zab ?_
  refine Zaf ?_
  refine brF h4 ?_
  refine Zag ?_
  iterate 4 refine Zab ?_
  refine Zaf ?_
  exact⟨_,rfl,by rw[hr,Zar (by omega) (by omega)];omega,by rw[hr,Zar (by omega) (by omega)];omega⟩
 |true=>
  have h4:decide (n.tmod (IntKind.i64.wrap (IntKind.i64.wrap (hi-lo)+1))<0)=true:=by rw[hr];exact h3
  have:=of_decide_eq_true h3
  have w2:IntKind.i64.wrap (r+(hi-lo+1))=r+(hi-lo+1):=Zar (by omega) (by omega)
  refine Zag ?_
  iterate 2 refine Zab ?_
  refine Zaf ?_
  refine brT h4 ?_
  refine Zag ?_
  iterate 4 refine Zab ?_
  refine Zaf ?_
  refine Zag ?_
  iterate 4 refine Zab ?_
  refine Zaf ?_
  exact⟨_,rfl,by rw[hr,w1,w2,Zar (by omega) (by omega)];omega,by rw[hr,w1,w2,Zar (by omega) (by omega)];omega⟩
end Go.Proofs.YtkhpbclcfldhmaaGreatDoor
