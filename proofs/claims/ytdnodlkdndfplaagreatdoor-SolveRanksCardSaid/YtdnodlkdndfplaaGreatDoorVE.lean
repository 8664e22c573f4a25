/-
 The reference's choices: all sets of numbers, one after the other.
-/
import Derived.Test.YtdnodlkdndfplaaGreatDoorTxI
set_option linter.constructorNameAsVariable false
set_option linter.unusedSimpArgs false
set_option linter.unusedVariables false
namespace Go.Proofs.YtdnodlkdndfplaaGreatDoor
open Go.Am Go.Tx Dv Go.Lib
set_option maxRecDepth 100000
def ZaV (n s:Nat):List Nat:=(List.range n).filter fun i=>decide (s/2^i % 2=1)
theorem ZeM (n s:Nat):ZaV (n+1) s=ZaV n s++(if s/2^n % 2=1 then[n]else[]):=by
 rw[ZaV,List.range_succ,List.filter_append,ZaV]
 congr 1
 rw[List.filter_cons]
 by_cases h:s/2^n % 2=1
 ·rw[if_pos h,if_pos (decide_eq_true h)];rfl
 ·rw[if_neg h,if_neg (by simpa using h)];rfl
theorem Zr4 (n s:Nat):(ZaV n s).length≤n:=by
 have:=List.length_filter_le (fun i=>decide (s/2^i % 2=1)) (List.range n)
 rwa[List.length_range]at this
def ZoJ (n k:Nat) (P:List Nat→Bool):Nat→Bool
 |0=>false
 |i+1=>ZoJ n k P i||(decide ((ZaV n i).length=k)&&P (ZaV n i))
theorem ZzC (s i:Nat) (hi:i≤60):IntKind.i64.wrap ((BitVec.ofInt 64 (((s:Nat):Int).fdiv (2^(min ((i:Nat):Int).toNat 64)))&&&BitVec.ofInt 64 1).toNat:Nat)=((s/2^i % 2:Nat):Int):=by
 have e1:((s:Nat):Int).fdiv (2^(min ((i:Nat):Int).toNat 64))=((s/2^i:Nat):Int):=by
  rw[Int.toNat_natCast,Nat.min_eq_left (by omega),Int.fdiv_eq_ediv_of_nonneg _ (Int.pow_nonneg (by decide))]
  rw[show((2:Int)^i)=((2^i:Nat):Int)by rw[Int.natCast_pow];rfl,←Int.natCast_ediv]
 rw[e1,BitVec.toNat_and]
 have e2:(BitVec.ofInt 64 ((s/2^i:Nat):Int)).toNat&&&(BitVec.ofInt 64 1).toNat=s/2^i % 2:=by
  rw[show(BitVec.ofInt 64 1).toNat=1 by decide,Nat.and_one_is_mod,BitVec.toNat_ofInt]
  omega
 rw[e2]
 exact Zae (by omega) (by omega)
theorem ZiF {F:Nat} {B hp':List SM} {tm tm':TM} {id:Nat} {m:SM} (hF:F≤B.length) (hB: ∀x∈B,∀id∈Zfg x,id<B.length) (hold: ∀j,j<B.length→nth hp' j=nth B j) (hm:nth hp' id=some m) (hr:Zfg m=[]) (hid:B.length≤id)
 (htm:Zwm (fun j=>if j<B.length then j else id) (B.length+1) tm tm'):Ent F tm hp' tm' (B++ [m]):=by
 have hl:(B++ [m]).length=B.length+1:=by rw[List.length_append];rfl
 have hidl:=ZwP hm
 refine ZhY (fun j=>if j<B.length then j else id) (by rw[hl];omega) (fun j hj=>if_pos (by omega)) (fun j hj=> ?_) (fun i j hi hj h=> ?_) (by rw[hl];exact htm) fun j x hx=> ?_
 ·show(if j<B.length then j else id)<_
  split<;>omega
 ·rw[hl]at hi hj
  have h:(if i<B.length then i else id)=(if j<B.length then j else id):=h
  repeat' split at h
  all_goals omega
 ·right
  have hjl:=(List.getElem?_eq_some_iff.1 hx).1
  rw[hl]at hjl⊢
  by_cases hj:j<B.length
  ·rw[List.getElem?_append_left hj]at hx
   have hb:=hB x (List.mem_of_getElem? hx)
   refine⟨?_,fun id hid=>Nat.lt_succ_of_lt (hb id hid)⟩
   show hp'[if j<B.length then j else id]? =_
   rw[if_pos hj,←ZaG,hold j hj,ZaG,hx,Zhp (p:=B.length) (fun j hj=>if_pos hj) x hb]
  ·have e:j=B.length:=by omega
   subst e
   rw[List.getElem?_append_right (Nat.le_refl _),Nat.sub_self]at hx
   cases hx
   refine⟨?_,fun id hid=>by rw[hr]at hid;exact absurd hid List.not_mem_nil⟩
   show hp'[if B.length<B.length then B.length else id]? =_
   rw[if_neg (Nat.lt_irrefl _),←ZaG,hm,Zhp (p:=0) (fun j hj=>absurd hj (Nat.not_lt_zero j)) m (fun id hid=>by rw[hr]at hid;exact absurd hid List.not_mem_nil)]
abbrev ZgH (l:List Nat):SM:= .row (.i .i64) (l.map Int.ofNat) true
section
variable (n k g : Nat) (caps : List SV) (B : Bool → List SM) (P : List Nat → Bool) (Fl : Nat)
def vCi (s j:Nat):TM:=[(0,nt n),(1,nt k),(2, .func g [] caps),(6,nt s),(7, .ref Fl 0 (ZaV j s).length none),(10,nt (2^n)),(11,nt s),(14,nt n),(15,nt j)]
def vCo (s:Nat):TM:=[(0,nt n),(1,nt k),(2, .func g [] caps),(10,nt (2^n)),(11,nt s)]
end
set_option maxHeartbeats 16000000 in
theorem Zr3 (n k g base:Nat) (caps:List SV) (B:List SM) (Fl s:Nat) (hn:n≤40) (hFl:B.length=Fl) (hB: ∀x∈B,∀id∈Zfg x,id<Fl) (hc: ∀id∈rchL caps,id<Fl):
 LoopOK Tryz.prog Zam Fl ⟨69,base,36⟩ (Zcp Tryz.f69 5) (vCi n k g caps Fl s 0) (B++ [ZgH (ZaV 0 s)])
 (fun e tm hp=>e= .exit 2∧Ent Fl tm hp (vCi n k g caps Fl s n) (B++ [ZgH (ZaV n s)])):=by
 refine Zap Zaa rfl (vCi n k g caps Fl s) (fun j=>B++ [ZgH (ZaV j s)]) (fun j=>j≤n) (fun j=>n-j) ?_ 0 (Nat.zero_le _) Zbf
 intro j hj
 cases h1:decide ((j:Int)<(n:Int))with
 |false=>
  have he:j=n:=by have:=of_decide_eq_false h1;omega
  subst he
  refine Zat ?_
  refine Zah ?_
  refine Zas ?_
  refine brF h1 ?_
  exact⟨rfl,Zaq ⟨rfl,rfl,rfl,rfl,rfl,rfl,rfl,rfl,rfl,trivial⟩⟩
 |true=>
  have hlt:j<n:=by have:=of_decide_eq_true h1;omega
  have hb:=ZzC s j (by omega)
  have hll:=Zr4 j s
  refine Zat ?_
  refine Zah ?_
  refine Zas ?_
  refine brT h1 ?_
  refine Zat ?_
  iterate 2 refine Zah ?_
  refine Zas ?_
  cases h2:decide (s/2^j % 2=1)with
  |false=>
   have h3:decide (IntKind.i64.wrap ((BitVec.ofInt 64 (((s:Nat):Int).fdiv (2^(min ((j:Nat):Int).toNat 64)))&&&BitVec.ofInt 64 1).toNat:Nat)=(1:Int))=false:=by
    rw[hb,decide_eq_false_iff_not];have:=of_decide_eq_false h2;omega
   have e:ZaV (j+1) s=ZaV j s:=by rw[ZeM,if_neg (of_decide_eq_false h2),List.append_nil]
   refine Zat ?_
   iterate 2 refine Zah ?_
   refine Zcq rfl (fun _=>rfl) (Int.natCast_nonneg j) rfl rfl ?_
   iterate 2 refine Zah ?_
   refine Zas ?_
   refine brF h3 ?_
   refine Zat ?_
   iterate 2 refine Zah ?_
   refine Zas ?_
   refine⟨j+1,hlt,by show n-(j+1)<n-j;omega, ?_⟩
   refine Ent.eqs (hp0:=B++ [ZgH (ZaV (j+1) s)]) (by rw[e]) (Zaq ⟨rfl,rfl,rfl,rfl,congrArg (fun x=>some (SV.ref Fl 0 x none)) (congrArg List.length e.symm),rfl,rfl,rfl,congrArg (fun x=>some (SV.v (.i .i64) x)) (Zg1 (by omega)),trivial⟩)
  |true=>
   have h3:decide (IntKind.i64.wrap ((BitVec.ofInt 64 (((s:Nat):Int).fdiv (2^(min ((j:Nat):Int).toNat 64)))&&&BitVec.ofInt 64 1).toNat:Nat)=(1:Int))=true:=by
    rw[hb,decide_eq_true_eq];have:=of_decide_eq_true h2;omega
   have e:ZaV (j+1) s=ZaV j s++ [j]:=by rw[ZeM,if_pos (of_decide_eq_true h2)]
   have hn0:nth (B++ [ZgH (ZaV j s)]++ [SM.row (.i .i64) [(j:Int)] true]) Fl=some (ZgH (ZaV j s)):=ZhH (by rw[←hFl];exact Zgu)
   have hl0:(B++ [ZgH (ZaV j s)]).length=Fl+1:=by rw[List.length_append,hFl];rfl
   have hn1:nth (B++ [ZgH (ZaV j s)]++ [SM.row (.i .i64) [(j:Int)] true]) (B++ [ZgH (ZaV j s)]).length=some (.row (.i .i64) [(j:Int)] true):=Zgu
   have hz:((ZaV j s).length+ [(j:Int)].length)*8≤140737488355328:=by show((ZaV j s).length+1)*8≤_;omega
   refine Zat ?_
   iterate 2 refine Zah ?_
   refine Zcq rfl (fun _=>rfl) (Int.natCast_nonneg j) rfl rfl ?_
   iterate 2 refine Zah ?_
   refine Zas ?_
   refine brT h3 ?_
   refine Zat ?_
   iterate 2 refine Zah ?_
   refine Zqp ?_
   refine Zaj rfl (ZkA (ct:= .i .i64) (l:=(ZaV j s).map Int.ofNat) (new:=[(j:Int)]) rfl rfl rfl rfl rfl rfl rfl rfl rfl hn0 (List.length_map _).symm (fun kk hk=>Zlg hn1 (Nat.le_refl 1) hk) hz (fun i1 H1 g1 g2 g3 g4=> ?_))
   refine Zac rfl rfl ?_
   refine Zah ?_
   refine Zas ?_
   refine Zat ?_
   iterate 2 refine Zah ?_
   refine Zas ?_
   refine⟨j+1,hlt,by show n-(j+1)<n-j;omega, ?_⟩
   show Ent Fl _ H1 _ (B++ [ZgH (ZaV (j+1) s)])
   rw[e]
   subst hFl
   have hi1:B.length≤i1:=by
    rcases g4 with h|h
    ·omega
    ·rw[List.length_append,hl0]at h;omega
   refine ZiF (Nat.le_refl _) hB (fun i hi=> ?_) (by rw[g1,ZgH,List.map_append];rfl) rfl hi1 ?_
   ·rw[g2 i (by omega) (by rw[List.length_append,hl0];omega),ZaG,ZaG,List.getElem?_append_left (by rw[hl0];omega),List.getElem?_append_left hi]
   ·have hfc:rnV (fun j=>if j<B.length then j else i1) (.func g [] caps)= .func g [] caps:=ZwN (p:=B.length) (fun j hj=>if_pos hj) _ (fun id hid=>hc id (by simpa[ZcV,rchL]using hid))
    have hlen:(ZaV (j+1) s).length=(ZaV j s).length+1:=by rw[e,List.length_append];rfl
    refine⟨rfl,Zfr,rfl,Zfr,by rw[hfc];rfl,fun id hid=>Nat.lt_succ_of_lt (hc id (by simpa[ZcV,rchL]using hid)),rfl,Zfr, ?_,Zc2 (Nat.lt_succ_self _),rfl,Zfr,rfl,Zfr,rfl,Zfr,congrArg (fun x=>some (SV.v (.i .i64) x)) (Zg1 (by omega)),Zfr,trivial⟩
    show some (SV.ref i1 0 ((ZaV j s).length+1) none)=some (SV.ref (if B.length<B.length then B.length else i1) 0 (ZaV (j+1) s).length none)
    rw[if_neg (Nat.lt_irrefl _),hlen]
set_option maxHeartbeats 16000000 in
theorem ZmB (n k g:Nat) (caps:List SV) (B:Bool→List SM) (P:List Nat→Bool) (Fl:Nat) (hn:n≤40) (hk:1≤k) (hFl: ∀b,(B b).length=Fl) (hB: ∀b,∀x∈B b,∀id∈Zfg x,id<Fl) (hc: ∀id∈rchL caps,id<Fl) (ho:Zam.opn g=true)
 (hf: ∀b s,(ZaV n s).length=k→OpenOK Tryz.prog Zam g (.ref Fl 0 k none::caps) (B b++ [ZgH (ZaV n s)]) (fun _ hp'=> ∃ex,hp'=B (b||P (ZaV n s))++ex)) (b:Bool):
 OpenOK Tryz.prog Zam 69 [nt n,nt k, .func g [] caps] (B b) (fun _ hp'=> ∃ex,hp'=B (b||ZoJ n k P (2^n))++ex):=by
 refine Zet (fn:=Tryz.f69) (code:=ZbU Tryz.f69) Zaa (by kernel_rfl) Tryz.func69 (by kernel_rfl) (Nat.le_of_ble_eq_true (by kernel_rfl)) ?_
 intro base
 rw[hFl b]
 have hpow:2^n≤2^40:=Nat.pow_le_pow_right (by decide) hn
 have hpow':(2:Nat)^40=1099511627776:=by decide
 have w2:IntKind.i64.wrap (1*2^(min ((n:Nat):Int).toNat 64))=((2^n:Nat):Int):=by
  rw[Int.toNat_natCast,Nat.min_eq_left (by omega),Int.one_mul,show((2:Int)^n)=((2^n:Nat):Int)by rw[Int.natCast_pow];rfl]
  obtain⟨N,eN⟩: ∃N,2^n=N:=⟨_,rfl⟩
  rw[eN,hpow']at hpow
  rw[eN]
  exact Zae (by omega) (by omega)
 refine Zat ?_
 refine Zah ?_
 refine Zcq rfl (fun _=>rfl) (Int.natCast_nonneg n) rfl rfl ?_
 refine Zah ?_
 refine Zas ?_
 refine Zap Zaa rfl (fun(s:Nat)=>vCo n k g caps s) (fun s=>B (b||ZoJ n k P s)) (fun s=>s≤2^n) (fun s=>2^n-s) ?_ 0 (Nat.zero_le _) ?_
 ·intro s hs
  cases h1:decide ((s:Int)<((2^n:Nat):Int))with
  |false=>
   have he:s=2^n:=by have:=of_decide_eq_false h1;omega
   subst he
   refine Zat ?_
   refine Zah ?_
   refine Zas ?_
   refine brF h1 ?_
   exact⟨[],(List.append_nil _).symm⟩
  |true=>
   have hlt:s<2^n:=by have:=of_decide_eq_true h1;omega
   obtain⟨c,ec⟩: ∃x,(b||ZoJ n k P s)=x:=⟨_,rfl⟩
   have hnext:(b||ZoJ n k P (s+1))=(c||(decide ((ZaV n s).length=k)&&P (ZaV n s))):=by rw[←ec,ZoJ,Bool.or_assoc]
   rw[ec]
   refine Zat ?_
   refine Zah ?_
   refine Zas ?_
   refine brT h1 ?_
   refine Zat ?_
   iterate 2 refine Zah ?_
   refine Zas ?_
   refine Zat ?_
   refine Zah ?_
   refine Zas ?_
   refine Zat ?_
   iterate 2 refine Zah ?_
   refine Zas ?_
   refine((Zr3 n k g base caps (B c) Fl s hn (hFl c) (hB c) hc).ent ?_).through ?_
   ·refine Ent.trans (tm1:=[(0,nt n),(1,nt k),(2, .func g [] caps),(6,nt s),(7, .nils),(10,nt (2^n)),(11,nt s),(14,nt n),(15,nt 0)]) (hp1:=B c) (Zaq ⟨rfl,rfl,rfl,rfl,rfl,rfl,rfl,rfl,rfl,trivial⟩) ?_
    refine ZfS (k:=7) (by rw[hFl];exact Nat.le_refl _) rfl (fun i V hi h=> ?_) ?_
    ·have hb:Nat.beq i 7=false:=by
      cases hb:Nat.beq i 7 with
      |true=>exact absurd (Nat.eq_of_beq_eq_true hb) hi
      |false=>rfl
     simp only[vCi,ZbQ,hb]at h⊢
     exact h
    ·rw[hFl];rfl
   rintro _ tm hp ⟨rfl,hE⟩
   refine⟨_,_,hE, ?_⟩
   have hsl:s<1099511627776:=by omega
   have wi:IntKind.i64.wrap ((s:Int)+1)=((s+1:Nat):Int):=Zae (by omega) (by omega)
   have drop: ∀ (c':Bool) (ex:List SM) (tm:TM),c'=(b||ZoJ n k P (s+1))→ZbQ 0 tm=some (nt n)→ZbQ 1 tm=some (nt k)→ZbQ 2 tm=some (.func g [] caps)→ZbQ 10 tm=some (nt (2^n))→ZbQ 11 tm=some (nt (s+1))→Ent Fl tm (B c'++ex) (vCo n k g caps (s+1)) (B (b||ZoJ n k P (s+1))):=by
    intro c' ex tm e h0 h1 h2 h10 h11
    subst e
    refine ZhJ (by rw[hFl];exact Nat.le_refl _) ⟨h0,Zfr,h1,Zfr,h2,fun id hid=>by rw[hFl];exact hc id (by simpa[ZcV,rchL]using hid),h10,Zfr,h11,Zfr,trivial⟩ fun m hm id hid=>by rw[hFl];exact hB _ m hm id hid
   cases h2:decide (((ZaV n s).length:Int)=(k:Int))with
   |false=>
    have hlen:decide ((ZaV n s).length=k)=false:=by rw[decide_eq_false_iff_not];have:=of_decide_eq_false h2;omega
    rw[hlen,Bool.false_and,Bool.or_false]at hnext
    refine Zat ?_
    iterate 4 refine Zah ?_
    refine Zas ?_
    refine brF h2 ?_
    refine Zat ?_
    iterate 2 refine Zah ?_
    refine Zas ?_
    refine⟨s+1,hlt,by show 2^n-(s+1)<2^n-s;omega, ?_⟩
    exact drop c _ _ hnext.symm rfl rfl rfl rfl (congrArg (fun x=>some (SV.v (.i .i64) x)) wi)
   |true=>
    have hlk:(ZaV n s).length=k:=by have:=of_decide_eq_true h2;omega
    rw[decide_eq_true hlk,Bool.true_and]at hnext
    have hcall:=hf c s hlk
    rw[←hlk]at hcall
    refine Zat ?_
    iterate 4 refine Zah ?_
    refine Zas ?_
    refine brT h2 ?_
    refine Zat ?_
    iterate 2 refine Zah ?_
    refine Zaj rfl (ZBb rfl rfl rfl rfl ho (hcall.mono (fun V hp' hV=> ?_)))
    refine Zac rfl rfl ?_
    refine Zas ?_
    obtain⟨ex,rfl⟩:=hV
    refine Zat ?_
    iterate 2 refine Zah ?_
    refine Zas ?_
    refine⟨s+1,hlt,by show 2^n-(s+1)<2^n-s;omega, ?_⟩
    exact drop _ ex _ hnext.symm rfl rfl rfl rfl (congrArg (fun x=>some (SV.v (.i .i64) x)) wi)
 ·refine Ent.eqs (hp0:=B (b||ZoJ n k P 0)) (by rw[ZoJ,Bool.or_false]) (Zaq ⟨rfl,rfl,rfl,congrArg (fun x=>some (SV.v (.i .i64) x)) w2,rfl,trivial⟩)
end Go.Proofs.YtdnodlkdndfplaaGreatDoor
