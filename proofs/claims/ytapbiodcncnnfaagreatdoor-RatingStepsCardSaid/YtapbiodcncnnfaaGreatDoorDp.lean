/- What two library calls answer, as functions on values: a number's text, a text's number. -/
import Derived.Test.YtapbiodcncnnfaaGreatDoorNe
import Derived.Test.YtapbiodcncnnfaaGreatDoorAmC
import Derived.Lib.Bytealg
set_option linter.all false
namespace Dv
open Go Go.Am
def Zw4:Nat→Nat→List UInt8
 |0,_=> []
 |k+1,n=>match Nat.ble 10 n with
  |true=>Zw4 k (n/10)++ [UInt8.ofNat (48+n % 10)]
  |false=> [UInt8.ofNat (48+n)]
theorem ZnH: ∀ (k n:Nat),1≤k→n<10^k→Zw4 k n=Lib.decDigits n
 |0,_,h,_=>absurd h (by decide)
 |k+1,n,_,h=>by
  rw[Zw4]
  cases j:Nat.ble 10 n with
  |true=>
   have j:=Xal j
   have C:1≤k:=by
    rcases k with _|k
    ·simp at h;omega
    ·omega
   simp only[]
   rw[ZnH k (n/10) C (by rw[Nat.pow_succ]at h;omega),Lib.decDigits.eq_1 n,dif_neg (by omega)]
  |false=>
   have j:n<10:=by
    rcases XaO n 10 with h'|h'
    ·exact h'
    ·rw[Xbj h']at j;cases j
   simp only[]
   rw[Lib.decDigits_one j]
def Ze0:List (List PV)→Option (List Int)
 | []=>some []
 | [.int .u32 x]::r=>match decide (0≤x)&&decide (x<4294967296)with
  |true=>(Ze0 r).map fun l=>x::l
  |false=>none
 |_=>none
def Zfv (m:Bool) (l:List Int):List UInt8:=match l.isEmpty with
 |true=> [48]
 |false=>match Nat.ble l.length 210 with
  |true=>(match m with|true=> [45]|false=> [])++Zw4 2100 (wv l).toNat
  |false=> []
def Zew (l:List Int):Bool:=match l.isEmpty with
 |true=>true
 |false=>match Nat.ble l.length 210 with
  |true=>Nat.ble (Zw4 2100 (wv l).toNat).length 2000
  |false=>false
def textG:List PV→Option PV
 | [.agg [.bool m, .nils]]=>some (.tup [.str ⟨(Zfv m []).toArray⟩, .bool (Zew [])])
 | [.agg [.bool m, .lst es]]=>(Ze0 es).map fun l=> .tup [.str ⟨(Zfv m l).toArray⟩, .bool (Zew l)]
 |_=>none
def Zys (s:List UInt8):Bool:=s.all fun c=>Nat.ble 48 c.toNat&&Nat.ble c.toNat 57
def parseG:List PV→Option PV
 | [.str s, .int .i64 b, .int .i64 z]=>match decide (b=10)&&decide (z=32)&&(Zys s.data.toList&&Nat.ble 1 s.data.toList.length&&Nat.ble s.data.toList.length 9)with
  |true=>some (.tup [.int .u64 (dec s.data.toList:Nat), .nili])
  |false=>none
 |_=>none
def wOf (n:Nat):List Int:=if h:n=0 then[]else((n % 4294967296:Nat):Int)::wOf (n/4294967296)
termination_by n
decreasing_by omega
theorem Zel:wOf 0=[]:=by rw[wOf,dif_pos rfl]
theorem Zlz {n:Nat} (h:n≠0):wOf n=((n % 4294967296:Nat):Int)::wOf (n/4294967296):=by rw[wOf,dif_neg h]
theorem ZfW {n:Nat}:wOf n=[]↔n=0:=by
 constructor
 ·intro h
  rcases Nat.eq_zero_or_pos n with h0|h0
  ·exact h0
  ·rw[Zlz (by omega)]at h;cases h
 ·rintro rfl;exact Zel
theorem Zlk (n:Nat):Wd (wOf n)∧Nz (wOf n)∧wv (wOf n)=n:=by
 induction n using Nat.strongRecOn with
 |_ n C=>
  by_cases h:n=0
  ·subst h
   rw[Zel]
   exact⟨fun x hx=>by simp at hx,fun h=>absurd rfl h,rfl⟩
  ·obtain⟨I,J,R⟩:=C (n/4294967296) (by omega)
   rw[Zlz h]
   refine⟨fun x hx=> ?_,fun U=> ?_, ?_⟩
   ·rcases Xav.1 hx with rfl|hx
    ·omega
    ·exact I x hx
   ·by_cases j:wOf (n/4294967296)=[]
    ·have:n/4294967296=0:=ZfW.1 j
     simp only[j,List.getLast_singleton]
     omega
    ·rw[List.getLast_cons j]
     exact J j
   ·rw[wv,R];omega
theorem ZdI (n:Nat):Wd (wOf n):=(Zlk n).1
theorem Zy1 (n:Nat):Nz (wOf n):=(Zlk n).2.1
theorem Zct (n:Nat):wv (wOf n)=n:=(Zlk n).2.2
theorem Zmr {l:List Int} (h:Wd l):0≤wv l:=(Zbc h).1
theorem ZoB: ∀ {l:List Int} {n:Nat},Wd l→Nz l→wv l=n→l=wOf n
 | [],n,_,_,h=>by
  have:n=0:=by simp only[wv]at h;omega
  rw[this,Zel]
 |x::l,n,j,I,R=>by
  have hx:=j x Xah
  have J:Wd l:=fun y U=>j y (Xai _ U)
  have hp:=Zml j I (by simp)
  have h0:=Zmr J
  simp only[wv]at R hp
  have hn:Nz l:=fun C=>by
   have:=I (by simp)
   rwa[List.getLast_cons C]at this
  rw[Zlz (by omega),←ZoB (l:=l) (n:=n/4294967296) J hn (by omega)]
  congr 1
  omega
theorem ZdR {n k:Nat}:(wOf n).length≤k↔n<4294967296^k:=by
 induction k generalizing n with
 |zero=>
  simp only[Nat.le_zero_eq,XaY,ZfW,Nat.pow_zero]
  omega
 |succ k j=>
  by_cases h:n=0
  ·subst h
   rw[Zel]
   simp only[XbG,Xao,true_iff]
   exact Nat.pow_pos (by decide)
  ·rw[Zlz h,Xap,Nat.add_le_add_iff_right,j,Nat.pow_succ]
   omega
theorem ZbK {m n:Nat} (h:m≤n):(wOf m).length≤(wOf n).length:=by
 rw[ZdR]
 exact Nat.lt_of_le_of_lt h (ZdR.1 (Xan _))
theorem Znf (m n:Nat):(wOf (m*n)).length≤(wOf m).length+(wOf n).length:=by
 rw[ZdR,Nat.pow_add]
 have j:m<4294967296^(wOf m).length:=ZdR.1 (Xan _)
 have C:n<4294967296^(wOf n).length:=ZdR.1 (Xan _)
 exact Nat.mul_lt_mul'' j C
def ln (v:Int):Nat:=(wOf v.natAbs).length
theorem Zv7 (v:Int):ln (-v)=ln v:=by rw[ln,Int.natAbs_neg];rfl
theorem Zsz (a b:Int):ln (a*b)≤ln a+ln b:=by rw[ln,Int.natAbs_mul];exact Znf _ _
theorem ZAx {v:Int} {k:Nat}:ln v≤k↔v.natAbs<4294967296^k:=ZdR
theorem ZpL {v:Int} (h:v.natAbs<18446744073709551616):ln v≤2:=ZAx.2 (by simpa using h)
open Go Go.Am Go.Lib
def cnB (s:List UInt8):Bool:=Zys s&&(!s.isEmpty&& !(decide (1<s.length)&&s.head? ==some 48))
def ZaE (s:List UInt8):Int:=match cnB s with
 |false=>5
 |true=>match Nat.ble s.length 2000 with
  |true=>0
  |false=>2
theorem Zks {s:List UInt8}:Zys s=true↔Dg s:=by
 unfold Zys
 rw[Xau]
 refine forall_congr' fun c=>forall_congr' fun _=> ?_
 rw[Xag,Nat.ble_eq,Nat.ble_eq]
theorem ZiP {s:List UInt8}:cnB s=true↔Cn s:=by
 simp only[cnB,Xag,Zks,Bool.not_eq_true',Bool.and_eq_false_iff,decide_eq_false_iff_not,beq_eq_false_iff_ne,List.isEmpty_eq_false_iff,Cn,ne_eq]
 constructor
 ·rintro⟨j,C,I⟩
  exact⟨C,j,fun h=>I.resolve_left (by omega)⟩
 ·rintro⟨j,C,I⟩
  refine⟨C,j, ?_⟩
  by_cases h:1<s.length
  ·exact .inr (I h)
  ·exact .inl h
theorem Zbg {s:List UInt8} (h:ZaE s=0):Cn s∧s.length≤2000:=by
 unfold ZaE at h
 split at h
 ·cases h
 ·rename_i j
  split at h
  ·rename_i C
   exact⟨ZiP.1 j,Xal C⟩
  ·cases h
theorem Zrj {s:List UInt8} (h:Cn s) (j:s.length≤2000):ZaE s=0:=by
 simp only[ZaE,ZiP.2 h,Xbj j]
def Zt5 (n:Nat):List UInt8×Int:=match Nat.ble (decDigits n).length 2000 with
 |true=>(decDigits n,0)
 |false=>([],2)
theorem Zp3 {n:Nat} (h:n<10^2000):Zt5 n=(decDigits n,0):=by
 have:Nat.ble (decDigits n).length 2000=true:=Xbj ((Zbt (k:=2000) (by decide)).2 h)
 simp only[Zt5,this]
theorem Zx2 (n:Nat):Zew (wOf n)=Nat.ble (decDigits n).length 2000∧(Nat.ble (decDigits n).length 2000=true→ ∀m,Zfv m (wOf n)=(match decide (n=0),m with|false,true=> [45]|_,_=> [])++decDigits n):=by
 by_cases U:n=0
 ·subst U
  rw[Zel,decDigits_one (by decide)]
  refine⟨rfl,fun _ m=> ?_⟩
  cases m<;>rfl
 ·have I:(wOf n).isEmpty=false:=by
   rw[List.isEmpty_eq_false_iff,ne_eq,ZfW];exact U
  have aa:decide (n=0)=false:=decide_eq_false U
  by_cases R:(wOf n).length≤210
  ·have J:Nat.ble (wOf n).length 210=true:=Xbj R
   have ab:n<10^2100:=Nat.lt_trans (ZdR.1 R) (by decide+kernel)
   have hv:(wv (wOf n)).toNat=n:=by rw[Zct];omega
   have C:Zw4 2100 n=decDigits n:=ZnH 2100 n (by decide) ab
   refine⟨by simp only[Zew,I,J,hv,C],fun _ m=> ?_⟩
   simp only[Zfv,I,J,hv,C,aa]
   cases m<;>rfl
  ·have J:Nat.ble (wOf n).length 210=false:=by
    cases J:Nat.ble (wOf n).length 210 with
    |false=>rfl
    |true=>exact absurd (Xal J) R
   have ad:10^2000≤n:=by
    rcases XaO n (10^2000)with h|h
    ·exact absurd (ZdR.2 (Nat.lt_trans h (by decide+kernel))) R
    ·exact h
   have j:Nat.ble (decDigits n).length 2000=false:=by
    cases j:Nat.ble (decDigits n).length 2000 with
    |false=>rfl
    |true=>
     have:=(Zbt (by decide)).1 (Xal j)
     omega
   exact⟨by simp only[Zew,I,J,j],fun h=>by rw[j]at h;cases h⟩
def ZjA (a b:List UInt8):Int:=match decide (ZaE a=0)with
 |true=>ZaE b
 |false=>ZaE a
theorem Zs9 {a b:List UInt8} (h:ZjA a b=0):ZaE a=0∧ZaE b=0:=by
 unfold ZjA at h
 split at h
 ·rename_i j;exact⟨of_decide_eq_true j,h⟩
 ·rename_i j;exact absurd h (of_decide_eq_false j)
def ZbV:List UInt8→UInt8→Nat→Int
 | [],_,_=> -1
 |b::l,c,i=>match Nat.beq b.toNat c.toNat with
  |true=>(i:Int)
  |false=>ZbV l c (i+1)
theorem ZhF: ∀ (l:List UInt8) (c:UInt8),-1≤indexByte l c
 | [],_=>XaT _
 |b::l,c=>by
  have:=ZhF l c
  rw[indexByte]
  split
  ·decide
  ·split
   ·decide
   ·omega
theorem Zrv: ∀ (l:List UInt8) (c:UInt8) (i:Nat),ZbV l c i=if indexByte l c= -1 then-1 else i+indexByte l c
 | [],_,_=>rfl
 |b::l,c,i=>by
  have R:=ZhF l c
  have j:=Zrv l c (i+1)
  have C:Nat.beq b.toNat c.toNat=(b==c):=by
   rw[Xbh,Nat.beq_eq,beq_iff_eq]
   exact UInt8.toNat_inj
  rw[ZbV,indexByte,C]
  cases I:b==c with
  |true=>simp
  |false=>
   simp only[XaG,if_false,j]
   by_cases h:indexByte l c= -1
   ·simp[h]
   ·rw[if_neg h]
    have J:(indexByte l c== -1)=false:=by simpa using h
    rw[J]
    simp only[XaG,if_false]
    rw[if_neg (by omega)]
    omega
theorem ZyG (l:List UInt8) (c:UInt8):ZbV l c 0=indexByte l c:=by
 rw[Zrv]
 split
 ·rename_i h;exact h.symm
 ·omega
def indexG:List PV→Option PV
 | [.str s, .str t]=>match t.data.toList with
  | [c]=>some (.int .i64 (ZbV s.data.toList c 0))
  |_=>none
 |_=>none
def ZdA (s:List UInt8) (c:UInt8):List UInt8×List UInt8×Bool:=match decide (0≤ZbV s c 0)with
 |true=>(s.take (ZbV s c 0).toNat,s.drop ((ZbV s c 0).toNat+1),true)
 |false=>(s,[],false)
open Go Go.Lib
theorem Zig: ∀ {s:List UInt8},Dg s→ ∀i,ZbV s 47 i= -1
 | [],_,_=>rfl
 |b::l,h,i=>by
  have j:=(h b Xah).1
  have C:Nat.beq b.toNat (47:UInt8).toNat=false:=by
   cases I:Nat.beq b.toNat (47:UInt8).toNat with
   |false=>rfl
   |true=>rw[Xam I]at j;exact absurd j (by decide)
  rw[ZbV,C]
  exact Zig (fun c J=>h c (Xai _ J)) _
theorem Zk1: ∀ {s:List UInt8},Dg s→ ∀ (t:List UInt8) (i:Nat),ZbV (s++47::t) 47 i=((i+s.length:Nat):Int)
 | [],_,t,i=>by
  rw[List.nil_append,ZbV]
  rfl
 |b::l,h,t,i=>by
  have j:=(h b Xah).1
  have C:Nat.beq b.toNat (47:UInt8).toNat=false:=by
   cases I:Nat.beq b.toNat (47:UInt8).toNat with
   |false=>rfl
   |true=>rw[Xam I]at j;exact absurd j (by decide)
  rw[XbH,ZbV,C]
  simp only
  rw[Zk1 (fun c J=>h c (Xai _ J)) t (i+1),Xap]
  congr 1
  omega
theorem ZgO: ∀ (s:List UInt8) (c:UInt8) (i:Nat),0≤ZbV s c i→ ∃k:Nat,ZbV s c i=((i+k:Nat):Int)∧s=s.take k++c::s.drop (k+1)
 | [],_,_,h=>by rw[ZbV]at h;omega
 |b::l,c,i,h=>by
  rw[ZbV]at h⊢
  cases C:Nat.beq b.toNat c.toNat with
  |true=>
   have j:b=c:=UInt8.toNat_inj.1 (Xam C)
   subst j
   exact⟨0,rfl,rfl⟩
  |false=>
   rw[C]at h
   obtain⟨k,I,J⟩:=ZgO l c (i+1) h
   refine⟨k+1, ?_, ?_⟩
   ·simp only
    rw[I]
    congr 1
    omega
   ·rw[List.take_succ_cons,List.drop_succ_cons,XbH,←J]
theorem Zgu {s:List UInt8} (h:ZbV s 47 0= -1):ZdA s 47=(s,[],false):=by
 rw[ZdA,h]
 rfl
theorem Zg7 {s:List UInt8} {k:Nat} (h:ZbV s 47 0=(k:Int)):ZdA s 47=(s.take k,s.drop (k+1),true):=by
 rw[ZdA,h,decide_eq_true (Xaj k),Xad]
theorem Ztn {s:List UInt8} (h:(ZdA s 47).2.2=true):s=(ZdA s 47).1++47::(ZdA s 47).2.1:=by
 cases j:decide (0≤ZbV s 47 0)with
 |true=>
  obtain⟨k,C,I⟩:=ZgO s 47 0 (of_decide_eq_true j)
  rw[Xaq]at C
  rw[Zg7 C]
  exact I
 |false=>
  unfold ZdA at h
  rw[j]at h
  cases h
theorem Zj1 {s:List UInt8} (h:(ZdA s 47).2.2=false):ZdA s 47=(s,[],false):=by
 unfold ZdA at h⊢
 cases j:decide (0≤ZbV s 47 0)with
 |true=>rw[j]at h;cases h
 |false=>rfl
def mns (m:Bool) (s:List UInt8):List UInt8:=match m with
 |true=>45::s
 |false=>s
def Zcb (d:Nat):List UInt8:=match decide (d=1)with
 |true=> []
 |false=>47::decDigits d
def Zc0 (q:Rat):List UInt8:=mns (decide (q.num<0)) (decDigits q.num.natAbs++Zcb q.den)
def Zkj (q:Rat):Bool:=Nat.ble (decDigits q.num.natAbs).length 2000&&Nat.ble (decDigits q.den).length 2000
def ZkV (a:List UInt8):Bool:=a.head? ==some 45
def ZgC (a:List UInt8):List UInt8:=match ZkV a with
 |true=>a.drop 1
 |false=>a
def Zhe (a:List UInt8):List UInt8:=(ZdA (ZgC a) 47).1
def ZnL (a:List UInt8):List UInt8:=(ZdA (ZgC a) 47).2.1
def rIs (a:List UInt8):Bool:=(ZdA (ZgC a) 47).2.2
def rE1 (a:List UInt8):Int:=ZaE (Zhe a)
def rE2 (a:List UInt8):Int:=match rIs a with
 |true=>ZaE (ZnL a)
 |false=>0
def ZvX (a:List UInt8):Bool:=rIs a&&(decide (dec (ZnL a)=0)||(decide (dec (ZnL a)=1)|| !decide (Nat.gcd (dec (Zhe a)) (dec (ZnL a))=1)))
def Zb3 (a:List UInt8):Int:=match decide (rE1 a=5)||(decide (rE2 a=5)||(Zhe a==[48]&&ZkV a))with
 |true=>5
 |false=>match decide (rE1 a=0)&&decide (rE2 a=0)with
  |false=>2
  |true=>match ZvX a with
   |true=>3
   |false=>0
theorem ZoT {m:Bool} {s:List UInt8} (h:s.head?≠some 45):ZkV (mns m s)=m:=by
 cases m with
 |true=>rfl
 |false=>simpa[ZkV,mns]using h
theorem Zu9 {m:Bool} {s:List UInt8} (h:s.head?≠some 45):ZgC (mns m s)=s:=by
 rw[ZgC,ZoT h]
 cases m<;>rfl
theorem Zlt (a:List UInt8):mns (ZkV a) (ZgC a)=a:=by
 rw[ZgC]
 cases h:ZkV a with
 |false=>rfl
 |true=>
  cases a with
  |nil=>cases h
  |cons b l=>
   have:b=45:=by simpa[ZkV]using h
   subst this
   rfl
theorem ZwV {s t:List UInt8} (h:Dg s) (j:s≠ []):(s++t).head?≠some 45:=by
 cases s with
 |nil=>exact absurd rfl j
 |cons b l=>
  intro he
  have C:=(h b Xah).1
  have:b=45:=by simpa using he
  subst this
  exact absurd C (by decide)
theorem Ziw (n d:Nat):(decDigits n++Zcb d).head?≠some 45:=ZwV (ZaT n) (ZeL n)
theorem Zor (n d:Nat):ZdA (decDigits n++Zcb d) 47=match decide (d=1)with
 |true=>(decDigits n,[],false)
 |false=>(decDigits n,decDigits d,true):=by
 unfold Zcb
 cases decide (d=1)with
 |true=>
  simp only[XaF]
  exact Zgu (Zig (ZaT n) 0)
 |false=>
  simp only
  have h:=Zk1 (ZaT n) (decDigits d) 0
  rw[Xaq]at h
  rw[Zg7 h,List.take_left',List.drop_append]
  ·simp
  ·rfl
theorem Ztc (q:Rat):ZgC (Zc0 q)=decDigits q.num.natAbs++Zcb q.den:=Zu9 (Ziw _ _)
theorem ZrK (q:Rat):ZkV (Zc0 q)=decide (q.num<0):=ZoT (Ziw _ _)
theorem Zdw {q:Rat}:Zkj q=true↔(decDigits q.num.natAbs).length≤2000∧(decDigits q.den).length≤2000:=by
 rw[Zkj,Xag,Nat.ble_eq,Nat.ble_eq]
theorem Ztu {s:List UInt8} (j:Cn s):dec s=0↔s=[48]:=by
 constructor
 ·intro h
  have:=j.eq
  rw[h,decDigits_one (by decide)]at this
  exact this.symm
 ·rintro rfl;rfl
theorem Zzx {s:List UInt8} (j:Cn s):dec s=1↔s=[49]:=by
 constructor
 ·intro h
  have:=j.eq
  rw[h,decDigits_one (by decide)]at this
  exact this.symm
 ·rintro rfl;rfl
theorem ZnI {a:List UInt8} (h:Zb3 a=0): ∃q:Rat,a=Zc0 q∧Zkj q=true:=by
 unfold Zb3 at h
 cases j:decide (rE1 a=5)||(decide (rE2 a=5)||(Zhe a==[48]&&ZkV a))with
 |true=>rw[j]at h;cases h
 |false=>
 cases C:decide (rE1 a=0)&&decide (rE2 a=0)with
 |false=>rw[j,C]at h;cases h
 |true=>
 cases I:ZvX a with
 |true=>rw[j,C,I]at h;cases h
 |false=>
 rw[Xbg,Xbg]at j
 rw[Xag,decide_eq_true_eq,decide_eq_true_eq]at C
 obtain⟨J,l1⟩:=Zbg C.1
 have hs:ZkV a=true→dec (Zhe a)≠0:=fun R h0=>by
  have:=j.2.2
  rw[R,(Ztu J).1 h0]at this
  cases this
 have hd: ∃d:Nat,ZgC a=decDigits (dec (Zhe a))++Zcb d∧d≠0∧Nat.gcd (dec (Zhe a)) d=1∧(decDigits d).length≤2000:=by
  cases hi:rIs a with
  |true=>
   have e2:=C.2
   rw[rE2,hi]at e2
   obtain⟨c2,l2⟩:=Zbg e2
   rw[ZvX,hi,Bool.true_and,Xbg,Xbg,Bool.not_eq_false',decide_eq_false_iff_not,decide_eq_false_iff_not,decide_eq_true_eq]at I
   refine⟨dec (ZnL a), ?_,I.1,I.2.2,by rw[c2.eq];exact l2⟩
   rw[Zcb,decide_eq_false I.2.1,J.eq,c2.eq]
   exact Ztn hi
  |false=>
   refine⟨1, ?_,by decide,Nat.gcd_one_right _,by rw[decDigits_one (by decide)];decide⟩
   have e:=Zj1 hi
   have e1:Zhe a=ZgC a:=by rw[Zhe,e]
   rw[J.eq,e1]
   simp[Zcb]
 obtain⟨d,U,aa,ab,ad⟩:=hd
 cases R:ZkV a with
 |true=>
  refine⟨⟨-(dec (Zhe a):Int),d,aa,by show Nat.gcd (-(dec (Zhe a):Int)).natAbs d=1;rw[Int.natAbs_neg,XaV];exact ab⟩, ?_, ?_⟩
  ·have h0:=hs R
   refine(Zlt a).symm.trans ?_
   rw[R,U,Zc0]
   show mns true _=mns (decide (-(dec (Zhe a):Int)<0)) (decDigits (-(dec (Zhe a):Int)).natAbs++Zcb d)
   rw[Int.natAbs_neg,XaV,decide_eq_true (by omega: -(dec (Zhe a):Int)<0)]
  ·refine Zdw.2 ⟨?_,ad⟩
   show(decDigits (-(dec (Zhe a):Int)).natAbs).length≤2000
   rw[Int.natAbs_neg,XaV,J.eq]
   exact l1
 |false=>
  refine⟨⟨(dec (Zhe a):Int),d,aa,by show Nat.gcd (dec (Zhe a):Int).natAbs d=1;rw[XaV];exact ab⟩, ?_, ?_⟩
  ·refine(Zlt a).symm.trans ?_
   rw[R,U,Zc0]
   show mns false _=mns (decide ((dec (Zhe a):Int)<0)) (decDigits (dec (Zhe a):Int).natAbs++Zcb d)
   rw[XaV,decide_eq_false (by omega: ¬ (dec (Zhe a):Int)<0)]
  ·refine Zdw.2 ⟨?_,ad⟩
   show(decDigits (dec (Zhe a):Int).natAbs).length≤2000
   rw[XaV,J.eq]
   exact l1
theorem Zxs {q:Rat} (h:Zkj q=true):(Zc0 q).length≤4002:=by
 obtain⟨j,C⟩:=Zdw.1 h
 have I:(Zcb q.den).length≤2001:=by
  unfold Zcb
  cases decide (q.den=1)with
  |true=>simp
  |false=>simp only[Xap];omega
 have hm: ∀ (m:Bool) (s:List UInt8),(mns m s).length≤s.length+1:=fun m s=>by cases m<;>simp[mns]
 have:=hm (decide (q.num<0)) (decDigits q.num.natAbs++Zcb q.den)
 rw[Xaw]at this
 rw[Zc0]
 omega
theorem ZBg {s:List UInt8} (h:Cn s):(s==[48])=decide (dec s=0):=by
 rw[Xbh,beq_iff_eq,decide_eq_true_eq,Ztu h]
theorem ZzB {s:List UInt8} (h:Cn s):(s==[49])=decide (dec s=1):=by
 rw[Xbh,beq_iff_eq,decide_eq_true_eq,Zzx h]
theorem ZrB (s:List UInt8) (c:UInt8):(ZdA s c).1.length≤s.length∧(ZdA s c).2.1.length≤s.length:=by
 unfold ZdA
 cases decide (0≤ZbV s c 0)with
 |true=>simp only[Xas,XaZ];omega
 |false=>simp
theorem Ztk (a:List UInt8):(ZgC a).length≤a.length∧decide (((ZgC a).length:Int)<(a.length:Int))=ZkV a:=by
 have h:=congrArg List.length (Zlt a)
 cases j:ZkV a with
 |true=>
  rw[j]at h
  simp only[mns,Xap]at h
  exact⟨by omega,decide_eq_true (by omega)⟩
 |false=>
  rw[j]at h
  simp only[mns]at h
  exact⟨by omega,decide_eq_false (by omega)⟩
def Zhc (E1 E2:Int) (z m bad:Bool):Int:=match decide (E1=5)||(decide (E2=5)||(z&&m))with
 |true=>5
 |false=>match decide (E1=0)&&decide (E2=0)with
  |false=>2
  |true=>match bad with
   |true=>3
   |false=>0
theorem ZhK (a:List UInt8):Zb3 a=Zhc (ZaE (Zhe a)) (rE2 a) (Zhe a==[48]) (ZkV a) (ZvX a):=rfl
def ZeK:List (List UInt8)→Int
 | []=>0
 |a::l=>match decide (Zb3 a=0)with
  |true=>ZeK l
  |false=>Zb3 a
theorem Zj3: ∀ {l:List (List UInt8)},ZeK l=0→ ∀a∈l,Zb3 a=0
 | [],_,_,h=>absurd h XaU
 |b::l,h,a,ha=>by
  rw[ZeK]at h
  cases j:decide (Zb3 b=0)with
  |true=>
   rw[j]at h
   rcases Xav.1 ha with rfl|ha
   ·exact of_decide_eq_true j
   ·exact Zj3 h a ha
  |false=>rw[j]at h;exact absurd h (of_decide_eq_false j)
theorem Zye (m:Bool) (n d:Nat):ZdA (mns m (decDigits n++Zcb d)) 47=match decide (d=1)with
 |true=>(mns m (decDigits n),[],false)
 |false=>(mns m (decDigits n),decDigits d,true):=by
 cases m with
 |false=>exact Zor n d
 |true=>
  have e:ZbV (mns true (decDigits n++Zcb d)) 47 0=ZbV (decDigits n++Zcb d) 47 1:=rfl
  cases C:decide (d=1)with
  |true=>
   have j:Zcb d=[]:=by rw[Zcb,C]
   rw[j,XaF]at e⊢
   rw[Zig (ZaT n)]at e
   exact Zgu e
  |false=>
   have j:Zcb d=47::decDigits d:=by rw[Zcb,C]
   rw[j]at e⊢
   rw[Zk1 (ZaT n)]at e
   rw[Zg7 e,mns,Nat.add_comm,List.take_succ_cons,List.take_left',List.drop_succ_cons,List.drop_append]
   ·simp[mns]
   ·rfl
theorem Zrn:Zc0 0=[48]:=by
 rw[Zc0,Rat.zero_num,Rat.zero_den]
 show mns false (decDigits 0++Zcb 1)=[48]
 rw[decDigits_one (by decide)]
 rfl
end Dv
namespace Go.Tx
noncomputable section
open Go.Am
inductive AV where
 |nil
 |i (t:TypeId) (k:IntKind) (n:Int)
 |s (t:TypeId) (x:List UInt8)
def AV.pv:AV→PV
 | .nil=> .nili
 | .i t k n=> .ifc t (.i k n)
 | .s t x=> .ifc t (.s ⟨List.toArray x⟩)
inductive CT where
 |i (k:IntKind)|b|s|l (e:CT)|p (a c:CT)|any
 deriving DecidableEq
abbrev CT.D:CT→Type
 | .i _=>Int
 | .b=>Bool
 | .s=>List UInt8
 | .l e=>List e.D
 | .p a c=>a.D×c.D
 | .any=>AV
def CT.w:CT→Nat
 | .p a c=>a.w+c.w
 |_=>1
def CT.z:(t:CT)→t.D
 | .i _=>(0:Int)
 | .b=>false
 | .s=>([]:List UInt8)
 | .l e=>([]:List e.D)
 | .p a c=>(a.z,c.z)
 | .any=>AV.nil
def All2 {α β:Type} (R:α→β→Prop):List α→List β→Prop
 | [],[]=>True
 |a::as,b::j=>R a b∧All2 R as j
 |_,_=>False
def RR:(t:CT)→t.D→List PV→Prop
 | .i k,x,cs=>cs=[.int k x]
 | .b,x,cs=>cs=[.bool x]
 | .s,x,cs=>cs=[.str ⟨List.toArray x⟩]
 | .l e,xs,cs=>(cs=[.nils]∧xs=([]:List e.D))∨ ∃es,cs=[.lst es]∧All2 (RR e) xs es
 | .p a c,x,cs=> ∃u v,cs=u++v∧RR a x.1 u∧RR c x.2 v
 | .any,x,cs=>cs=[AV.pv x]
inductive SV where
 |v (t:CT) (x:t.D)
 |nilp|nils|nilf|nili|nilmp
 |ref (id i n:Nat) (m:Option Nat)
 |ptr (id i r:Nat)
 |box (t:CT) (x:t.D) (r:Nat)
 |func (f:FuncId) (first caps:List SV)
 |agg (cs:List SV)
 |tup (vs:List SV)
 |mp (id:Nat)
abbrev Ph:=List (Option Nat)
mutual
def RV (φ:Ph):SV→PV→Prop
 | .v t x,q=>RR t x [q]
 | .nilp,q=>q= .nilp
 | .nils,q=>q= .nils
 | .nilf,q=>q= .nilf
 | .nili,q=>q= .nili
 | .nilmp,q=>q= .nilm
 | .ref id i n m,q=>(∃a,φ[id]? =some (some a)∧q= .ref a i n (m.getD n))∨(φ[id]? =some none∧q= .nils∧i=0∧n=0∧m.getD n=0)
 | .ptr id i r,q=> ∃a,φ[id]? =some (some a)∧q= .ptr a i r
 | .box t x r,q=> ∃cs,q= .box cs r∧RR t x cs
 | .func f a c,q=> ∃C I,q= .func f C I∧RL φ a C∧RL φ c I
 | .agg cs,q=> ∃j,q= .agg j∧RL φ cs j
 | .tup vs,q=> ∃vs',q= .tup vs'∧RL φ vs vs'
 | .mp id,q=> ∃a,φ[id]? =some (some a)∧q= .map a
def RL (φ:Ph):List SV→List PV→Prop
 | [],j=>j=[]
 |v::vs,j=> ∃q r,j=q::r∧RV φ v q∧RL φ vs r
end
inductive SM where
 |row (t:CT) (l:List t.D) (m:Bool)
 |cell (cs:List SV) (m:Bool)
 |many (ct:CT) (els:List SV) (m:Bool)
 |set (ks:List (List UInt8))
 |dead
def live:SM→Bool
 | .dead=>false
 |_=>true
def RM (φ:Ph) (L:Nat→Option Mem) (o:Option Nat):SM→Prop
 | .row t l m=>match o with
  |some a=> ∃es j,L a=some (.row es t.w j)∧All2 (RR t) l es∧(m=true→j=true)
  |none=>l=[]
 | .cell cs m=> ∃a C j,o=some a∧L a=some (.row [C] C.length j)∧RL φ cs C∧(m=true→j=true)
 | .many _ I m=>match o with
  |some a=> ∃es j,L a=some (.row es 1 j)∧All2 (fun V c=> ∃q,c=[q]∧RV φ V q) I es∧(m=true→j=true)
  |none=>I=[]
 | .set ks=> ∃a es,o=some a∧L a=some (.map es)∧All2 (fun(k:List UInt8) (e:PV×PV)=>e=(.str ⟨List.toArray k⟩, .bool true)) ks es
 | .dead=>True
structure RH (φ:Ph) (hp:List SM) (L:Nat→Option Mem):Prop where
 len:φ.length=hp.length
 row: ∀ (id:Nat) (sm:SM) (o:Option Nat),hp[id]? =some sm→φ[id]? =some o→RM φ L o sm
 inj: ∀ (id id':Nat) (sm sm':SM) (a:Nat),id≠id'→hp[id]? =some sm→hp[id']? =some sm'→live sm=true→live sm'=true→φ[id]? =some (some a)→φ[id']? =some (some a)→False
abbrev TM:=List (Nat×SV)
def ZcD (i:Nat):TM→Option SV
 | []=>none
 |p::r=>bif Nat.beq i p.1 then some p.2 else ZcD i r
structure SRep (φ:Ph) (tm:TM) (hp:List SM) (st:St):Prop where
 tm: ∀i V,ZcD i tm=some V→ ∃q,get st.tm i=some q∧RV φ V q
 hp:RH φ hp (fun a=>st.hp[a]?)
def Le (φ φ':Ph):Prop:= ∀ (id:Nat) (o:Option Nat),φ[id]? =some o→φ'[id]? =some o
def Fr (F:Nat) (φ φ':Ph):Prop:= ∀id,id<F→φ'[id]? =φ[id]?
inductive TK where
 |int (k:IntKind)|bool|str|slice (e:TypeId)|arr (n:Nat) (e:TypeId)|struct (fs:List (Nat×TypeId×Nat))|ptr|func|smap|any|other
structure TI where
 k:TK
 sz:Nat
 by_:Nat
 zero:List SV
 ct:Option CT
def nth {α:Type}:List α→Nat→Option α
 | [],_=>none
 |a::_,0=>some a
 |_::l,n+1=>nth l n
def keq (a b:IntKind):Bool:=Nat.beq a.ctorIdx b.ctorIdx
def ceq:CT→CT→Bool
 | .i a, .i b=>keq a b
 | .b, .b=>true
 | .s, .s=>true
 | .l a, .l b=>ceq a b
 | .p a c, .p b d=>ceq a b&&ceq c d
 | .any, .any=>true
 |_,_=>false
def ZcM:(t:CT)→t.D→List SV
 | .p a c,x=>ZcM a x.1++ZcM c x.2
 | .i k,x=> [.v (.i k) x]
 | .b,x=> [.v .b x]
 | .s,x=> [.v .s x]
 | .l e,x=> [.v (.l e) x]
 | .any,x=> [.v .any x]
theorem Zfy {a b:IntKind} (h:keq a b=true):a=b:=by
 revert h;cases a<;>cases b<;>decide
theorem ZiI: ∀ {e j:CT},ceq e j=true→e=j:=by
 intro e
 induction e with
 |i k=>intro j h;cases j<;>simp[ceq]at h;rw[Zfy h]
 |b=>intro j h;cases j<;>simp[ceq]at h;rfl
 |s=>intro j h;cases j<;>simp[ceq]at h;rfl
 |l a J=>intro j h;cases j<;>simp[ceq]at h;rw[J h]
 |p a c C I=>intro j h;cases j<;>simp[ceq]at h;rw[C h.1,I h.2]
 |any=>intro j h;cases j<;>simp[ceq]at h;rfl
def ZgV:(e j:CT)→ceq e j=true→List e.D→List j.D:=fun e j h xs=>cast (by rw[ZiI h]) xs
def ZbW:(t:CT)→List SV→Option t.D
 | .p a c,cs=>match ZbW a (cs.take a.w)with
  |some x=>match ZbW c (cs.drop a.w)with
   |some y=>some (x,y)
   |none=>none
  |none=>none
 | .i k,cs=>match cs with
  | [.v (.i C) y]=>bif keq k C then some y else none
  |_=>none
 | .b,cs=>match cs with
  | [.v .b y]=>some y
  |_=>none
 | .s,cs=>match cs with
  | [.v .s y]=>some y
  |_=>none
 | .l e,cs=>match cs with
  | [.v (.l j) y]=>if h:ceq j e=true then some (ZgV j e h y)else none
  | [.nils]=>some ([]:List e.D)
  |_=>none
 | .any,cs=>match cs with
  | [.v .any y]=>some y
  | [.nili]=>some AV.nil
  |_=>none
def Zk6:Value→Option SV
 | .bool b=>some (.v .b b)
 | .int k n=>some (.v (.i k) n)
 | .string s=>some (.v .s s.data.toList)
 | .pointer none=>some .nilp
 | .slice none 0 0=>some .nils
 | .nilFunc=>some .nilf
 | .nilIface=>some .nili
 | .map none=>some .nilmp
 |_=>none
def Zh1:List Value→Option (List SV)
 | []=>some []
 |v::r=>match Zk6 v with
  |some x=>match Zh1 r with
   |some y=>some (x::y)
   |none=>none
  |none=>none
def Ztx:Value→Option SV
 | .agg cs=>match Zh1 cs.toList with
  |some l=>some (.agg l)
  |none=>none
 |v=>Zk6 v
def evS (tm:TM):Operand→Option SV
 | .tmp t=>ZcD t tm
 | .const v=>Ztx v
 | .func f=>some (.func f [] [])
 | .global _=>none
def evL (tm:TM):List Operand→Option (List SV)
 | []=>some []
 |x::r=>match evS tm x with
  |some v=>match evL tm r with
   |some l=>some (v::l)
   |none=>none
  |none=>none
def Zbf:SV→List SV
 | .agg cs=>cs
 |v=> [v]
def ZbH:SV→Bool
 | .tup _=>false
 |_=>true
def spl {α:Type} (l:List α) (off:Nat) (cs:List α):List α:=l.take off++(cs++l.drop (off+cs.length))
def sub {α:Type} (l:List α) (i n:Nat):List α:=(l.drop i).take n
section
variable (P : Program) (h : Hints)
structure PureOK (f:FuncId) (Vs:List SV) (Q:SV→Prop):Prop where
 out: ∀qs,RL [] Vs qs→ ∃q V,Zb8 h (lim P h) f qs=some q∧RV [] V q∧Q V
structure ImpOK (f:FuncId) (Vs:List SV) (Q:SV→List SM→Bool→Prop):Prop where
 out: ∀qs,RL [] Vs qs→ ∀base,∃v rows sf φ V hp sf',ZdL (lim P h) f qs base=some (v,rows,sf)∧RV φ V v∧RH φ hp (fun a=>if base≤a then rows[a-base]? else none)∧(sf'=true→sf=true)∧Q V hp sf'
structure OpenOK (f:FuncId) (Vs:List SV) (hp:List SM) (Q:SV→List SM→Prop):Prop where
 out: ∀φ H qs,RH φ hp (fun a=>H[a]?)→RL φ Vs qs→ ∃v H' φ' V hp',(lim P h).rn f qs H=some (v,H')∧Le φ φ'∧RH φ' hp' (fun a=>H'[a]?)∧RV φ' V v∧Q V hp'
structure LoopOK (F:Nat) (c:Cx) (b:Code) (tm:TM) (hp:List SM) (Q:Ex→TM→List SM→Prop):Prop where
 out: ∀φ st,F≤φ.length→SRep φ tm hp st→ ∃e st' φ' tm' hp',(lim P h).ex c (.loop b) st=some (e,st')∧Fr F φ φ'∧SRep φ' tm' hp' st'∧Q e tm' hp'
end
def ZgF (f:SV→(SV→Prop)→Prop):List SV→(List SV→Prop)→Prop
 | [],k=>k []
 |v::r,k=>f v fun j=>ZgF f r fun C=>k (j::C)
def ZzM (ct:CT):List SV→Option (List ct.D)
 | []=>some []
 |V::r=>match ZbW ct [V]with
  |some x=>match ZzM ct r with
   |some xs=>some (x::xs)
   |none=>none
  |none=>none
def Zjq (hp:List SM):Nat→SV→(SV→Prop)→Prop
 |0,_,_=>False
 |1,_,_=>False
 |n+2,V,k=>match V with
  | .ref id i m _=>match nth hp id with
   |some (.row t l _)=>i+m≤l.length∧k (.v (.l t) (sub l i m))
   |some (.many ct C _)=>i+m≤C.length∧ZgF (Zjq hp (n+1)) (sub C i m) fun cs=>match ZzM ct cs with
    |some xs=>k (.v (.l ct) xs)
    |none=>False
   |some (.cell cs _)=>(i=0∧m=1)∧ZgF (Zjq hp (n+1)) cs fun j=> ∃ (ct:CT) (x:ct.D),ZbW ct j=some x∧k (.v (.l ct) [x])
   |_=>False
  | .ptr id i r=>match nth hp id with
   |some (.row t l _)=> ∃x,l[i]? =some x∧k (.box t x r)
   |some (.cell cs _)=>i=0∧ZgF (Zjq hp (n+1)) cs fun j=> ∃ (ct:CT) (x:ct.D),ZbW ct j=some x∧k (.box ct x r)
   |_=>False
  | .func f a c=>ZgF (Zjq hp (n+1)) a fun I=>ZgF (Zjq hp (n+1)) c fun J=>k (.func f I J)
  | .agg cs=>ZgF (Zjq hp (n+1)) cs fun j=>k (.agg j)
  | .tup vs=>ZgF (Zjq hp (n+1)) vs fun vs'=>k (.tup vs')
  | .mp _=>False
  |V=>k V
def ZAe (hp:List SM):List SV→(List SV→Prop)→Prop:=ZgF (Zjq hp 40)
mutual
def Zdt:SV→List Nat
 | .ref id _ _ _=> [id]
 | .ptr id _ _=> [id]
 | .func _ a c=>rchL a++rchL c
 | .agg cs=>rchL cs
 | .tup vs=>rchL vs
 | .mp id=> [id]
 |_=> []
def rchL:List SV→List Nat
 | []=> []
 |v::r=>Zdt v++rchL r
end
def Zh7 (hp:List SM):Nat→SV→List Nat
 |0,_=> []
 |n+1,V=>match V with
  | .ref id i m _=>id::(match nth hp id with
   |some (.many _ j _)=>(sub j i m).flatMap (Zh7 hp n)
   |some (.cell cs _)=>cs.flatMap (Zh7 hp n)
   |_=> [])
  | .ptr id _ _=>id::(match nth hp id with
   |some (.cell cs _)=>cs.flatMap (Zh7 hp n)
   |_=> [])
  | .func _ a c=>a.flatMap (Zh7 hp n)++c.flatMap (Zh7 hp n)
  | .agg cs=>cs.flatMap (Zh7 hp n)
  | .tup vs=>vs.flatMap (Zh7 hp n)
  | .mp id=> [id]
  |_=> []
def Zsm (hp:List SM) (l:List SV):List Nat:=l.flatMap (Zh7 hp 40)
def frz1 (hp:List SM) (id:Nat):List SM:=match nth hp id with
 |some (.row t l _)=>hp.set id (.row t l false)
 |some (.cell cs _)=>hp.set id (.cell cs false)
 |some (.many ct j _)=>hp.set id (.many ct j false)
 |_=>hp
def frzT (hp:List SM):List Nat→List SM
 | []=>hp
 |i::r=>frzT (frz1 hp i) r
def Zim:SV→Bool
 | .v (.i _) _| .v .b _| .v .s _| .v .any _| .nilp| .nils| .nilf| .nili| .nilmp=>true
 |_=>false
def ZsJ:SV→Bool
 | .tup vs=>vs.all Zim
 | .agg cs=>cs.all Zim
 |v=>Zim v
mutual
def shS (b:Nat):SV→SV
 | .ref id i n m=> .ref (b+id) i n m
 | .ptr id i r=> .ptr (b+id) i r
 | .func f a c=> .func f (shL b a) (shL b c)
 | .agg cs=> .agg (shL b cs)
 | .tup vs=> .tup (shL b vs)
 | .v t x=> .v t x
 | .nilp=> .nilp
 | .nils=> .nils
 | .nilf=> .nilf
 | .nili=> .nili
 | .nilmp=> .nilmp
 | .box t x r=> .box t x r
 | .mp id=> .mp (b+id)
def shL (b:Nat):List SV→List SV
 | []=> []
 |v::r=>shS b v::shL b r
end
def shH (b:Nat):SM→SM
 | .row t l m=> .row t l m
 | .cell cs m=> .cell (shL b cs) m
 | .many ct j m=> .many ct (shL b j) m
 | .set ks=> .set ks
 | .dead=> .dead
def ZxK (b:Nat):List SM→List SM
 | []=> []
 |m::r=>shH b m::ZxK b r
section
variable (P : Program) (h : Hints) (T : TypeId → TI)
def ZA9 (op:BinOp) (j:IntKind) (a:Int) (C:IntKind) (b:Int) (k:SV→Prop):Prop:=
 match op with
 | .shl=>0≤b∧k (.v (.i j) (j.wrap (a*2^(min b.toNat j.bits))))
 | .shr=>0≤b∧k (.v (.i j) (a.fdiv (2^(min b.toNat j.bits))))
 |op=>match keq j C with
  |false=>False
  |true=>match op with
   | .add=>k (.v (.i j) (j.wrap (a+b)))
   | .sub=>k (.v (.i j) (j.wrap (a-b)))
   | .mul=>k (.v (.i j) (j.wrap (a*b)))
   | .quo=>b≠0∧k (.v (.i j) (j.wrap (a.tdiv b)))
   | .rem=>b≠0∧k (.v (.i j) (a.tmod b))
   | .and=>k (.v (.i j) (j.wrap (BitVec.ofInt j.bits a&&&BitVec.ofInt j.bits b).toNat))
   | .or=>k (.v (.i j) (j.wrap (BitVec.ofInt j.bits a|||BitVec.ofInt j.bits b).toNat))
   | .xor=>k (.v (.i j) (j.wrap (BitVec.ofInt j.bits a^^^BitVec.ofInt j.bits b).toNat))
   | .andNot=>k (.v (.i j) (j.wrap (BitVec.ofInt j.bits a&&& ~~~ (BitVec.ofInt j.bits b)).toNat))
   | .eql=>k (.v .b (decide (a=b)))
   | .neq=>k (.v .b (!decide (a=b)))
   | .lss=>k (.v .b (decide (a<b)))
   | .leq=>k (.v .b (decide (a≤b)))
   | .gtr=>k (.v .b (decide (b<a)))
   | .geq=>k (.v .b (decide (b≤a)))
   |_=>False
def ZAt (op:BinOp) (a b:List UInt8) (k:SV→Prop):Prop:=
 match op with
 | .add=>a.length+b.length≤9223372036854775807∧k (.v .s (a++b))
 | .eql=>k (.v .b (a==b))
 | .neq=>k (.v .b (!(a==b)))
 | .lss=>k (.v .b (Op.bytesLess a b))
 | .leq=>k (.v .b (Op.bytesLess a b||a==b))
 | .gtr=>k (.v .b (!(Op.bytesLess a b||a==b)))
 | .geq=>k (.v .b (!Op.bytesLess a b))
 |_=>False
def eqB (op:BinOp) (r:Bool) (k:SV→Prop):Prop:=
 match op with
 | .eql=>k (.v .b r)
 | .neq=>k (.v .b (!r))
 |_=>False
def ZzX:SV→Option PV
 | .v (.i k) n=>some (.int k n)
 | .v .b b=>some (.bool b)
 | .v .s s=>some (.str ⟨s.toArray⟩)
 |_=>none
def ZlU:List SV→Option (List PV)
 | []=>some []
 |v::vs=>match ZzX v,ZlU vs with
  |some a,some l=>some (a::l)
  |_,_=>none
def ZAD (op:BinOp) (t:TypeId) (x y:SV) (k:SV→Prop):Prop:=
 match x,y with
 | .agg xs, .agg j=>match ZlU xs,ZlU j with
  |some a,some b=> ∃r,Zp1 P t a b=some r∧eqB op r k
  |_,_=>False
 | .v (.i C) a, .v (.i I) b=>ZA9 op C a I b k
 | .v .s a, .v .s b=>ZAt op a b k
 | .v .b a, .v .b b=>match(T t).k with
  | .bool=>eqB op (a==b) k
  |_=>False
 | .nilp, .nilp=>match(T t).k with
  | .ptr=>eqB op true k
  |_=>False
 | .ptr _ _ _, .nilp=>match(T t).k with
  | .ptr=>eqB op false k
  |_=>False
 | .box _ _ _, .nilp=>match(T t).k with
  | .ptr=>eqB op false k
  |_=>False
 | .nils, .nils=>match(T t).k with
  | .slice _=>eqB op true k
  |_=>False
 | .v (.l _) xs, .nils=>match(T t).k with
  | .slice _=>(xs=[]→eqB op true k)∧eqB op false k
  |_=>False
 | .ref _ _ n _, .nils=>match(T t).k with
  | .slice _=>(n=0→eqB op true k)∧eqB op false k
  |_=>False
 |_,_=>False
def unT (op:UnOp) (x:SV) (k:SV→Prop):Prop:=
 match op,x with
 | .neg, .v (.i j) n=>k (.v (.i j) (j.wrap (0-n)))
 | .not, .v .b b=>k (.v .b (!b))
 | .xor, .v (.i j) n=>k (.v (.i j) (j.wrap (BitVec.ofInt j.bits (if j.signed then-1 else j.max)^^^BitVec.ofInt j.bits n).toNat))
 |_,_=>False
def ZdH (s:List UInt8):List Int:=s.map fun b=>(b.toNat:Int)
def Zja (l:List Int):List UInt8:=l.map fun n=>UInt8.ofNat n.toNat
def Zxq (s d:TypeId) (hp:List SM) (x:SV) (k:SV→Prop):Prop:=
 match(T s).k,(T d).k,x with
 | .other,_,_=>False
 |_, .int j, .v (.i _) n=>k (.v (.i j) (j.wrap n))
 | .int _, .str, .v (.i _) n=>(0≤n∧n<128)∧k (.v .s [UInt8.ofNat n.toNat])
 |_, .str, .v .s a=>k (.v .s a)
 | .str, .slice e, .v .s a=>match(T e).k with
  | .int .u8=>k (.v (.l (.i .u8)) (ZdH a))
  |_=>False
 | .slice e, .str, .v (.l (.i .u8)) a=>match(T e).k with
  | .int .u8=>k (.v .s (Zja a))
  |_=>False
 | .slice e, .str, .ref id i n _=>match(T e).k with
  | .int .u8=>match nth hp id with
   |some (.row (.i .u8) l _)=>i+n≤l.length∧k (.v .s (Zja (sub l i n)))
   |_=>False
  |_=>False
 |_,_,_=>False
def ZgN (i:TI) (cs:List SV) (off:Nat):Option SV:=
 match i.k with
 | .struct _| .arr _ _=>bif Nat.ble (off+i.sz) cs.length then some (.agg ((cs.drop off).take i.sz))else none
 | .other=>none
 |_=>nth cs off
def Zmm (t:TypeId) (hp:List SM) (x:SV) (k:SV→Prop):Prop:=
 match x with
 | .ptr id i r=>match nth hp id with
  |some (.row ct l _)=> ∃x,l[i]? =some x∧match ZgN (T t) (ZcM ct x) r with
   |some V=>k V
   |none=>False
  |some (.cell cs _)=>i=0∧match ZgN (T t) cs r with
   |some V=>k V
   |none=>False
  |some (.many _ j _)=> ∃V,j[i]? =some V∧match ZgN (T t) [V] r with
   |some V=>k V
   |none=>False
  |_=>False
 | .box ct x r=>match ZgN (T t) (ZcM ct x) r with
  |some V=>k V
  |none=>False
 |_=>False
def ZsX:SV→Bool
 | .agg _| .tup _=>false
 |_=>true
def Zio (t:TypeId) (hp:List SM) (a x:SV) (k:SV→List SM→Prop):Prop:=
 match a with
 | .ptr id i r=>match ZbH x&&Nat.beq (Zbf x).length (T t).sz with
  |true=>match nth hp id with
   |some (.row ct l true)=> ∃y,l[i]? =some y∧match(T t).k,Nat.ble (r+(T t).sz) ct.w,ZbW ct (spl (ZcM ct y) r (Zbf x))with
    | .other,_,_=>False
    |_,true,some z=>k (.tup []) (hp.set id (.row ct (l.set i z) true))
    |_,_,_=>False
   |some (.cell cs true)=>i=0∧match(T t).k,Nat.ble (r+(T t).sz) cs.length with
    | .other,_=>False
    |_,true=>k (.tup []) (hp.set id (.cell (spl cs r (Zbf x)) true))
    |_,_=>False
   |some (.many ct j true)=>i<j.length∧match(T t).k,Nat.beq r 0&&ZsX x with
    | .other,_=>False
    |_,true=>k (.tup []) (hp.set id (.many ct (j.set i x) true))
    |_,_=>False
   |_=>False
  |false=>False
 |_=>False
def ixT (z:Nat) (hp:List SM) (x:SV) (j:Int) (k:SV→Prop):Prop:=
 match x with
 | .v (.l ct) xs=>match Nat.beq ct.w z with
  |true=> ∃y,0≤j∧xs[j.toNat]? =some y∧k (.box ct y 0)
  |false=>False
 | .ref id i n _=>match nth hp id with
  |some (.row ct _ _)=>match Nat.beq ct.w z with
   |true=>(0≤j∧j<n)∧k (.ptr id (i+j.toNat) 0)
   |false=>False
  |some (.cell cs _)=>match Nat.beq cs.length z with
   |true=>(0≤j∧j<n)∧k (.ptr id (i+j.toNat) 0)
   |false=>False
  |some (.many _ _ _)=>match Nat.beq 1 z with
   |true=>(0≤j∧j<n)∧k (.ptr id (i+j.toNat) 0)
   |false=>False
  |_=>False
 |_=>False
def Zfb (t:TypeId) (hp:List SM) (x C:SV) (k:SV→Prop):Prop:=
 match C with
 | .v (.i _) j=>match(T t).k with
  | .slice e=>match(T e).k with
   | .other=>False
   |_=>ixT (T e).sz hp x j k
  | .arr n e=>match(T e).k with
   | .other=>False
   |_=>match x with
    | .ptr id i r=>(0≤j∧j<n)∧k (.ptr id i (r+j.toNat*(T e).sz))
    | .box ct y r=>(0≤j∧j<n)∧k (.box ct y (r+j.toNat*(T e).sz))
    |_=>False
  |_=>False
 |_=>False
def ZtI (t:TypeId) (x C:SV) (k:SV→Prop):Prop:=
 match C with
 | .v (.i _) j=>match(T t).k,x with
  | .str, .v .s s=> ∃b,0≤j∧s[j.toNat]? =some b∧k (.v (.i .u8) (b.toNat:Int))
  | .arr n e, .agg cs=>(0≤j∧j<n)∧match(T e).k,ZgN (T e) cs (j.toNat*(T e).sz)with
   | .other,_=>False
   |_,some V=>k V
   |_,none=>False
  |_,_=>False
 |_=>False
def Zg9 (s:TypeId) (x:SV) (f:Nat) (k:SV→Prop):Prop:=
 match(T s).k with
 | .struct j=>match nth j f with
  |some (off,_,n+1)=>match x with
   | .ptr id i r=>k (.ptr id i (r+off))
   | .box ct y r=>k (.box ct y (r+off))
   |_=>False
  |_=>False
 |_=>False
def Zr7 (s:TypeId) (x:SV) (f:Nat) (k:SV→Prop):Prop:=
 match(T s).k,x with
 | .struct j, .agg cs=>match nth j f with
  |some (off,ty,_)=>match ZgN (T ty) cs off with
   |some V=>k V
   |none=>False
  |none=>False
 |_,_=>False
def ZAZ (t:TypeId) (x:SV) (k:SV→Prop):Prop:=
 match(T t).k,x with
 | .str, .v .s s=>k (.v (.i .i64) (s.length:Int))
 | .slice _, .v (.l _) xs=>k (.v (.i .i64) (xs.length:Int))
 | .slice _, .nils=>k (.v (.i .i64) (0:Int))
 | .slice _, .ref _ _ n _=>k (.v (.i .i64) (n:Int))
 | .arr n _,_=>k (.v (.i .i64) (n:Int))
 |_,_=>False
def mmT (C:Bool) (x y:SV) (k:SV→Prop):Prop:=
 match x,y with
 | .v (.i j) a, .v (.i I) b=>match keq j I with
  |true=>k (.v (.i j) (match C with|true=>(if b>a then b else a)|false=>(if b<a then b else a)))
  |false=>False
 |_,_=>False
def Zte (j:Bool):List SV→SV→(SV→Prop)→Prop
 | [],a,k=>k a
 |b::r,a,k=>mmT j a b fun c=>Zte j r c k
def Zvw (j:List (Nat×TypeId×Nat)):List SV→List (Nat×SV)→Option (List SV)
 |cs,[]=>some cs
 |cs,(i,V)::r=>match nth j i with
  |some (off,_,n)=>bif Nat.beq (Zbf V).length n&&Nat.ble (off+n) cs.length then Zvw j (spl cs off (Zbf V)) r else none
  |none=>none
def ZuO (n:Nat):List SV→List (Nat×SV)→Option (List SV)
 |cs,[]=>some cs
 |cs,(i,V)::r=>bif Nat.beq (Zbf V).length n&&Nat.ble (i*n+n) cs.length then ZuO n (spl cs (i*n) (Zbf V)) r else none
def ZmO (tm:TM):List (Nat×Operand)→Option (List (Nat×SV))
 | []=>some []
 |(i,x)::r=>match evS tm x with
  |some V=>bif ZbH V then(match ZmO tm r with
   |some l=>some ((i,V)::l)
   |none=>none)else none
  |none=>none
def Zr2 (t:TypeId) (ps:List (Nat×SV)) (k:SV→Prop):Prop:=
 match(T t).k with
 | .struct j=>match Zvw j (T t).zero ps with
  |some cs=>k (.agg cs)
  |none=>False
 | .arr _ e=>match(T e).k,ZuO (T e).sz (T t).zero ps with
  | .other,_=>False
  |_,some cs=>k (.agg cs)
  |_,none=>False
 |_=>False
def ZvG (ct:CT):List ct.D→List (Nat×SV)→Option (List ct.D)
 |l,[]=>some l
 |l,(i,V)::r=>match ZbW ct (Zbf V)with
  |some x=>bif Nat.ble (i+1) l.length then ZvG ct (l.set i x) r else none
  |none=>none
def okN:Nat→List (Nat×SV)→Bool
 |0,[]=>true
 |0,_::_=>false
 |_+1,_=>true
def Zue:Nat→List (Nat×SV)→Option (List SV)
 |_,[]=>some []
 |i,(j,V)::r=>match Nat.beq i j&&ZsX V with
  |true=>match Zue (i+1) r with
   |some l=>some (V::l)
   |none=>none
  |false=>none
def ZfL (t:TypeId) (n:Nat) (ps:List (Nat×SV)) (hp:List SM) (k:SV→List SM→Prop):Prop:=
 match(T t).k with
 | .slice e=>match(T e).k,okN n ps,Nat.ble 1 (T e).sz&&Nat.ble (n*(T e).sz) 16777216 with
  | .other,_,_=>False
  |_,true,true=>match(T e).ct with
   |some ct=>match ZvG ct (List.replicate n ct.z) ps with
    |some l=>k (.ref hp.length 0 n none) (hp++ [.row ct l true])
    |none=>match Zue 0 ps,Nat.beq (T e).sz 1,Nat.beq ps.length n with
     |some j,true,true=>k (.ref hp.length 0 n none) (hp++ [.many ct j true])
     |_,_,_=>match n,ps with
      |1,[(0,V)]=>match Nat.beq (Zbf V).length (T e).sz with
       |true=>k (.ref hp.length 0 1 none) (hp++ [.cell (Zbf V) true])
       |false=>False
      |_,_=>False
   |none=>match n,ps with
    |1,[(0,V)]=>match Nat.beq (Zbf V).length (T e).sz with
     |true=>k (.ref hp.length 0 1 none) (hp++ [.cell (Zbf V) true])
     |false=>False
    |_,_=>False
  |_,_,_=>False
 |_=>False
def ZAX:Operand→Operand→Bool
 | .tmp a, .tmp b=>Nat.beq a b
 | .const (.int k a), .const (.int j b)=>keq k j&&(a==b)
 |_,_=>false
def Zho (t:TypeId) (lo co:Operand) (tm:TM) (hp:List SM) (k:SV→List SM→Prop):Prop:=
 match evS tm lo,evS tm co with
 |some (.v (.i _) l),some (.v (.i _) c)=>match(T t).k with
  | .slice e=>match(T e).k,(T e).ct,Nat.ble 1 (T e).sz with
   | .other,_,_=>False
   |_,some ct,true=>(0≤l∧l≤c∧(T e).by_*c≤281474976710656∧c<9223372036854775808)∧match ZAX lo co with
    |true=>match(T e).zero with
     | [.nils]=>k (.ref hp.length 0 l.toNat none) (hp++ [.many ct (List.replicate l.toNat .nils) true])
     |_=>k (.ref hp.length 0 l.toNat none) (hp++ [.row ct (List.replicate l.toNat ct.z) true])
    |false=>k (.ref hp.length 0 l.toNat (some c.toNat)) (hp++ [.row ct (List.replicate c.toNat ct.z) true])
   |_,_,_=>False
  |_=>False
 |_,_=>False
def Zx9 (tm:TM) (n m:Nat) (lo hi:Option Operand) (k:Nat→Nat→Prop):Prop:=
 match lo,hi with
 |none,none=>k 0 n
 |some x,none=>match evS tm x with
  |some (.v (.i _) l)=>(0≤l∧l≤n)∧k l.toNat n
  |_=>False
 |none,some y=>match evS tm y with
  |some (.v (.i _) u)=>(0≤u∧u≤m)∧k 0 u.toNat
  |_=>False
 |some x,some y=>match evS tm x,evS tm y with
  |some (.v (.i _) l),some (.v (.i _) u)=>(0≤l∧l≤u∧u≤m)∧k l.toNat u.toNat
  |_,_=>False
def Zsg (t:TypeId) (tm:TM) (hp:List SM) (x:SV) (lo hi:Option Operand) (k:SV→Prop):Prop:=
 match(T t).k,x with
 | .str, .v .s s=>Zx9 tm s.length s.length lo hi fun l u=>k (.v .s ((s.take u).drop l))
 | .slice e, .v (.l ct) xs=>match(T e).k,Nat.beq ct.w (T e).sz with
  | .other,_=>False
  |_,true=>Zx9 tm xs.length xs.length lo hi fun l u=>k (.v (.l ct) ((xs.take u).drop l))
  |_,_=>False
 | .slice e, .ref id i n m=>match(T e).k,nth hp id with
  | .other,_=>False
  |_,some (.row ct _ _)=>match Nat.beq ct.w (T e).sz with
   |true=>match hi,m with
    |none,none=>Zx9 tm n n lo hi fun l u=>k (.ref id (i+l) (u-l) none)
    |_,_=>Zx9 tm n (m.getD n) lo hi fun l u=>k (.ref id (i+l) (u-l) (some (m.getD n-l)))
   |false=>False
  |_,_=>False
 | .slice e, .nils=>match(T e).k with
  | .other=>False
  |_=>Zx9 tm 0 0 lo hi fun _ _=>k .nils
 |_,_=>False
def Znw (t:TypeId) (tm:TM) (hp:List SM) (x:SV) (lo hi j:Option Operand) (k:SV→Prop):Prop:=
 match(T t).k,x,lo,hi,j with
 | .slice e, .ref id i n m,some a,some b,some c=>match(T e).k,nth hp id with
  | .other,_=>False
  |_,some (.row ct _ _)=>match Nat.beq ct.w (T e).sz with
   |true=>match evS tm a,evS tm b,evS tm c with
    |some (.v (.i _) l),some (.v (.i _) u),some (.v (.i _) w)=>(0≤l∧l≤u∧u≤w∧w≤m.getD n)∧k (.ref id (i+l.toNat) (u.toNat-l.toNat) (some (w.toNat-l.toNat)))
    |_,_,_=>False
   |false=>False
  |_,_=>False
 |_,_,_,_,_=>False
def ZsW (ct:CT) (hp:List SM) (x:SV) (k:List ct.D→Prop):Prop:=
 match x with
 | .nils=>k ([]:List ct.D)
 | .v (.l e) xs=>if h:ceq e ct=true then k (ZgV e ct h xs)else False
 | .v .s s=>match ct,k with
  | .i .u8,k=>k (ZdH s)
  |_,_=>False
 | .ref id i n _=>match nth hp id with
  |some (.row e l _)=>if h:ceq e ct=true then i+n≤l.length∧k (ZgV e ct h (sub l i n))else False
  |_=>False
 |_=>False
def Zvs (ct:CT) (by_:Nat) (hp:List SM) (s:SV) (new:List ct.D) (k:SV→List SM→Prop):Prop:=
 match s with
 | .nils=>match new with
  | []=>k .nils hp
  |x::r=>(r.length+1)*by_≤140737488355328∧k (.ref hp.length 0 (r.length+1) none) (hp++ [.row ct (x::r) true])
 | .ref id i n m=>match nth hp id with
  |some (.row e l true)=>if h:ceq e ct=true then i+n≤l.length∧match new with
   | []=>k (.ref id i n m) hp
   |x::r=>match m with
    |none=>(n+(r.length+1))*by_≤140737488355328∧k (.ref hp.length 0 (n+(r.length+1)) none) (hp.set id .dead++ [.row ct (ZgV e ct h (sub l i n)++x::r) true])
    |some c=>(n+(r.length+1)≤c→i+(n+(r.length+1))≤l.length∧k (.ref id i (n+(r.length+1)) (some c)) (hp.set id (.row ct (spl (ZgV e ct h l) (i+n) (x::r)) true)))∧
     (c<n+(r.length+1)→(n+(r.length+1))*by_≤140737488355328∧k (.ref hp.length 0 (n+(r.length+1)) none) (hp.set id .dead++ [.row ct (ZgV e ct h (sub l i n)++x::r) true]))
   else False
  |_=>False
 |_=>False
def Zi5 (ts:List TypeId) (hp:List SM) (s x:SV) (k:SV→List SM→Prop):Prop:=
 match ts with
 |t::t2::_=>match(T t).k,(T t2).k with
  | .slice _, .int _=>False
  | .slice _, .other=>False
  | .slice e,_=>match(T e).k,(T e).ct,Nat.ble 1 (T e).by_&&Nat.ble 1 (T e).sz with
   | .other,_,_=>False
   |_,some ct,true=>match h.frz t with
    |true=>Zjq hp 40 x fun V=>ZsW ct [] V fun new=>Zvs ct (T e).by_ (frzT hp (Zh7 hp 40 x)) s new k
    |false=>ZsW ct hp x fun new=>Zvs ct (T e).by_ hp s new k
   |_,_,_=>False
  |_,_=>False
 |_=>False
def ZwM (ts:List TypeId) (hp:List SM) (d x:SV) (k:SV→List SM→Prop):Prop:=
 match ts with
 |t::_=>match(T t).k with
  | .slice e=>match(T e).k,(T e).ct,Nat.ble 1 (T e).sz with
   | .other,_,_=>False
   |_,some ct,true=>ZsW ct hp x fun new=>match d with
    | .nils=>k (.v (.i .i64) (0:Int)) hp
    | .ref id i n _=>match nth hp id with
     |some (.row j l true)=>if C:ceq j ct=true then i+n≤l.length∧k (.v (.i .i64) ((min new.length n:Nat):Int)) (hp.set id (.row ct (spl (ZgV j ct C l) i (new.take n)) true))else False
     |_=>False
    |_=>False
   |_,_,_=>False
  |_=>False
 |_=>False
def Ztz (ts:List TypeId) (hp:List SM) (d:SV) (k:SV→List SM→Prop):Prop:=
 match ts with
 |t::_=>match(T t).k with
  | .slice e=>match(T e).k,(T e).ct,Nat.ble 1 (T e).sz with
   | .other,_,_=>False
   |_,some ct,true=>match d with
    | .nils=>k (.tup []) hp
    | .ref id i n _=>match nth hp id with
     |some (.row j l true)=>if C:ceq j ct=true then i+n≤l.length∧k (.tup []) (hp.set id (.row ct (spl (ZgV j ct C l) i (List.replicate n ct.z)) true))else False
     |_=>False
    |_=>False
   |_,_,_=>False
  |_=>False
 |_=>False
def Ze8 (f:FuncId) (args:List SV) (hp:List SM) (k:SV→List SM→Prop):Prop:=
 match h.opn f with
 |true=>OpenOK P h f args hp k
 |false=>ZAe hp args fun j=>match h.imp f with
  |true=>ImpOK P h f j fun V C I=>k (shS hp.length V) ((match I with|true=>hp|false=>frzT hp (Zsm hp args))++ZxK hp.length C)
  |false=>PureOK P h f j fun V=>match h.mem f with
   |true=>k V (frzT hp (Zsm hp args))
   |false=>match ZsJ V with
    |true=>k V hp
    |false=>False
def Zn1 (c:Call) (tm:TM) (hp:List SM) (k:SV→List SM→Prop):Prop:=
 match evL tm c.args.toList with
 |none=>False
 |some vs=>match c.callee with
  | .builtin b=>match b,vs with
   | .len,[x]=>match c.argTypes.toList with
    |t::_=>ZAZ T t x fun V=>k V hp
    |_=>False
   | .min,x::r=>Zte false r x fun V=>k V hp
   | .max,x::r=>Zte true r x fun V=>k V hp
   | .append,[s,x]=>Zi5 h T c.argTypes.toList hp s x k
   | .copy,[s,x]=>ZwM T c.argTypes.toList hp s x k
   | .clear,[s]=>Ztz T c.argTypes.toList hp s k
   |_,_=>False
  | .value (.func f)=>Ze8 P h f vs hp k
  | .value x=>match evS tm x with
   |some (.func f a d)=>Ze8 P h f (a++vs++d) hp k
   |_=>False
  |_=>False
def ZuE (s:List UInt8):List (List UInt8)→List (List UInt8)
 | []=> [s]
 |k::r=>bif s==k then k::r else k::ZuE s r
def Zq0 (s:List UInt8):List (List UInt8)→Bool
 | []=>false
 |k::r=>bif s==k then true else Zq0 s r
def AV.is (u:TypeId):AV→Option SV
 | .nil=>none
 | .i t k n=>match Nat.beq t u with
  |true=>some (.v (.i k) n)
  |false=>none
 | .s t x=>match Nat.beq t u with
  |true=>some (.v .s x)
  |false=>none
def asT (V:Option SV) (Z:SV) (ok:Bool) (k:SV→Prop):Prop:=
 match V,ok with
 |some V,true=>k (.tup [V, .v .b true])
 |some V,false=>k V
 |none,true=>k (.tup [Z, .v .b false])
 |none,false=>False
def Zod (y:AV) (u:TypeId) (ok:Bool) (k:SV→Prop):Prop:=
 match(T u).k with
 | .int j=>asT (y.is u) (.v (.i j) (0:Int)) ok k
 | .str=>asT (y.is u) (.v .s []) ok k
 |_=>False
def opT (op:Op) (tm:TM) (hp:List SM) (k:SV→List SM→Prop):Prop:=
 match op with
 | .move x=>match evS tm x with
  |some V=>k V hp
  |none=>False
 | .assign x=>match evS tm x with
  |some V=>k V hp
  |none=>False
 | .pick c a b=>match evS tm c with
  |some (.v .b t)=>(t=true→match evS tm a with|some V=>k V hp|none=>False)∧(t=false→match evS tm b with|some V=>k V hp|none=>False)
  |_=>False
 | .alloc t=>match(T t).k with
  | .other=>False
  |_=>k (.ptr hp.length 0 0) (hp++ [.cell (T t).zero true])
 | .box _ x=>match evS tm x with
  |some V=>match ZbH V with
   |true=>k (.ptr hp.length 0 0) (hp++ [.cell (Zbf V) true])
   |false=>False
  |none=>False
 | .build t ps=>match ZmO tm ps.toList with
  |some l=>Zr2 T t l fun V=>k V hp
  |none=>False
 | .buildSlice t n ps=>match ZmO tm ps.toList with
  |some l=>ZfL T t n l hp k
  |none=>False
 | .load t a=>match evS tm a with
  |some V=>Zmm T t hp V fun V=>k V hp
  |none=>False
 | .nilCheck x=>match evS tm x with
  |some (.ptr id i r)=>k (.ptr id i r) hp
  |some (.box t x r)=>k (.box t x r) hp
  |some (.func f a c)=>k (.func f a c) hp
  |_=>False
 | .binOp op t x y _=>match evS tm x,evS tm y with
  |some a,some b=>ZAD P T op t a b fun V=>k V hp
  |_,_=>False
 | .unOp op _ x=>match evS tm x with
  |some a=>unT op a fun V=>k V hp
  |none=>False
 | .convert s d x=>match evS tm x with
  |some a=>Zxq T s d hp a fun V=>k V hp
  |none=>False
 | .makeInterface t x=>match(T t).k,evS tm x with
  | .int _,some (.v (.i I) n)=>k (.v .any (AV.i t I n)) hp
  | .str,some (.v .s s)=>k (.v .any (AV.s t s)) hp
  |_,_=>False
 | .typeAssert x _ u ok=>match evS tm x with
  |some (.v .any y)=>Zod T y u ok fun V=>k V hp
  |_=>False
 | .makeFunc fn first C=>match fn with
  | .func f=>match evL tm first.toList,evL tm C.toList with
   |some a,some c=>k (.func f a c) hp
   |_,_=>False
  |_=>False
 | .makeSlice t l c=>Zho T t l c tm hp k
 | .slice t x lo hi R=>match R,evS tm x with
  |none,some V=>Zsg T t tm hp V lo hi fun V=>k V hp
  |some y,some V=>Znw T t tm hp V lo hi (some y) fun V=>k V hp
  |_,_=>False
 | .fieldAddr s x f=>match evS tm x with
  |some V=>Zg9 T s V f fun V=>k V hp
  |none=>False
 | .field s x f=>match evS tm x with
  |some V=>Zr7 T s V f fun V=>k V hp
  |none=>False
 | .indexAddr t x j=>match evS tm x,evS tm j with
  |some V,some J=>Zfb T t hp V J fun V=>k V hp
  |_,_=>False
 | .index t x j=>match evS tm x,evS tm j with
  |some V,some J=>ZtI T t V J fun V=>k V hp
  |_,_=>False
 | .extract x i=>match evS tm x with
  |some (.tup vs)=>match nth vs i with
   |some V=>k V hp
   |none=>False
  |_=>False
 | .call c=>Zn1 P h T c tm hp k
 | .store t a x=>match evS tm a,evS tm x with
  |some A,some V=>Zio T t hp A V k
  |_,_=>False
 | .makeMap t r=>match(T t).k,r with
  | .smap,none=>k (.mp hp.length) (hp++ [.set []])
  |_,_=>False
 | .lookup t x j ok=>match(T t).k,evS tm x,evS tm j,ok with
  | .smap,some (.mp id),some (.v .s s),false=>match nth hp id with
   |some (.set ks)=>k (.v .b (Zq0 s ks)) hp
   |_=>False
  |_,_,_,_=>False
 | .mapUpdate t m j x=>match(T t).k,evS tm m,evS tm j,evS tm x with
  | .smap,some (.mp id),some (.v .s s),some (.v .b true)=>match nth hp id with
   |some (.set ks)=>k (.tup []) (hp.set id (.set (ZuE s ks)))
   |_=>False
  |_,_,_,_=>False
 |_=>False
def Zdj (N:Nat) (dst:Option Tmp) (V:SV) (tm:TM) (k:TM→Prop):Prop:=
 match dst with
 |none=>k tm
 |some d=>match Nat.ble (d+1) N with
  |true=>k ((d,V)::tm)
  |false=>False
def wpOps (N:Nat) (ds:List (Option Tmp)):List Oper→TM→List SM→(TM→List SM→Prop)→Prop
 | [],tm,hp,k=>k tm hp
 |o::l,tm,hp,k=>match o.guard with
  |none=>opT P h T o.op tm hp fun V hp'=>Zdj N o.dst V tm fun tm'=>wpOps N ds l tm' hp' k
  |some (j,w)=>match nth ds j with
   |some (some d)=>match ZcD d tm with
    |some (.v .b t)=>(t=w→opT P h T o.op tm hp fun V hp'=>Zdj N o.dst V tm fun tm'=>wpOps N ds l tm' hp' k)∧
     (t= !w→Zdj N o.dst (.tup []) tm fun tm'=>wpOps N ds l tm' hp k)
    |some (.tup [])=>Zdj N o.dst (.tup []) tm fun tm'=>wpOps N ds l tm' hp k
    |_=>False
   |_=>False
def Zka (hp:List SM) (id:Nat):Bool:=match nth hp id with
 |some m=>live m
 |none=>false
def Zsa (id:Nat):List Nat→Bool
 | []=>false
 |j::r=>match Nat.beq id j with
  |true=>true
  |false=>Zsa id r
def Zi4 (hp:List SM):List Nat→Bool
 | []=>true
 |j::r=>Zka hp j&&Zi4 hp r
def ZmQ:List (Nat×Nat×Bool)→List Nat
 | []=> []
 |(_,id,true)::r=>id::ZmQ r
 |(_,_,false)::r=>ZmQ r
def ZAa:List (Nat×Nat×Bool)→List Nat
 | []=> []
 |(_,id,_)::r=>id::ZAa r
def ZAB (tm:TM) (c:Call):Option (Option Nat):=match c.callee with
 | .builtin .append=>match c.args.toList with
  |x::_=>match evS tm x with
   |some .nils=>some none
   |some (.ref id _ _ _)=>some (some id)
   |_=>none
  | []=>none
 |_=>none
def ZrH (o:Oper):List (Nat×Nat×Bool)→List (Nat×Nat×Bool)
 | []=> []
 |x::r=>match ZdT o x.1 with
  |true=>ZrH o r
  |false=>x::ZrH o r
def ZqJ (o:Oper) (ks:List (Nat×Nat×Bool)):List (Nat×Nat×Bool):=
 match isW h o with
 |true=>ZrH o ks
 |false=>ks
def ZzU:SM→Option Nat
 | .row t _ _=>some t.w
 | .cell cs _=>some cs.length
 | .many _ _ _=>some 1
 | .set _=>none
 | .dead=>none
def Zuo (hp hp':List SM):List (Nat×Nat×Bool)→Bool
 | []=>true
 |(_,id,_)::r=>match(nth hp id).bind ZzU,(nth hp' id).bind ZzU with
  |some a,some b=>Nat.beq a b&&Zuo hp hp' r
  |_,_=>false
def ZAK (tm:TM) (c:Call):Bool:=match c.callee with
 | .value (.func _)=>false
 | .value x=>match evS tm x with
  |some (.func f _ _)=> !h.opn f
  |_=>false
 |_=>false
def Zx3 (b:Bool) (p:Prop):Prop:=match b with
 |true=>p
 |false=>False
def ZBa (tm:TM) (c:Call):Bool:=match c.callee with
 | .builtin .min=>true
 | .builtin .max=>true
 | .builtin .len=>match evL tm c.args.toList with
  |some [.v (.l _) _]=>true
  |some [.nils]=>true
  |some [.ref _ _ _ _]=>true
  |_=>false
 |_=>false
def ZaW (N:Nat) (ls:List Nat):List Oper→Nat→List (Nat×Nat×Bool)→TM→List SM→(TM→List SM→Prop)→Prop
 | [],_,_,tm,hp,k=>k tm hp
 |o::l,i,ks,tm,hp,k=>match has i ls with
  |true=>match o.op with
   | .load t a=>match evS tm a with
    |some (.ptr id _ _)=>opT P h T (.load t a) tm hp fun V hp'=>Zdj N o.dst V tm fun tm'=>ZaW N ls l (i+1) ((i,id,true)::ks) tm' hp' k
    |some (.box _ _ _)=>opT P h T (.load t a) tm hp fun V hp'=>Zdj N o.dst V tm fun tm'=>ZaW N ls l (i+1) ks tm' hp' k
    |_=>False
   | .move x=>opT P h T (.move x) tm hp fun V hp'=>Zdj N o.dst V tm fun tm'=>ZaW N ls l (i+1) ks tm' hp' k
   | .indexAddr t x j=>match evS tm x with
    |some (.ref id _ _ _)=>opT P h T (.indexAddr t x j) tm hp fun V hp'=>Zdj N o.dst V tm fun tm'=>ZaW N ls l (i+1) ((i,id,false)::ks) tm' hp' k
    |some (.v (.l _) _)=>opT P h T (.indexAddr t x j) tm hp fun V hp'=>Zdj N o.dst V tm fun tm'=>ZaW N ls l (i+1) ks tm' hp' k
    |_=>False
   | .binOp bo t x y z=>opT P h T (.binOp bo t x y z) tm hp fun V hp'=>Zdj N o.dst V tm fun tm'=>ZaW N ls l (i+1) ks tm' hp' k
   | .slice t x lo hi J=>match evS tm x with
    |some (.v (.l _) _)=>opT P h T (.slice t x lo hi J) tm hp fun V hp'=>Zdj N o.dst V tm fun tm'=>ZaW N ls l (i+1) ks tm' hp' k
    |_=>False
   | .call c=>match ZBa tm c with
    |true=>opT P h T (.call c) tm hp fun V hp'=>Zdj N o.dst V tm fun tm'=>ZaW N ls l (i+1) ks tm' hp' k
    |false=>False
   |_=>False
  |false=>match ZqJ h o ks with
   | []=>opT P h T o.op tm hp fun V hp'=>Zdj N o.dst V tm fun tm'=>ZaW N ls l (i+1) [] tm' hp' k
   |y::C=>match isW h o with
    |false=>opT P h T o.op tm hp fun V hp'=>Zdj N o.dst V tm fun tm'=>ZaW N ls l (i+1) (y::C) tm' hp' k
    |true=>match ZmQ (y::C)with
     | []=>opT P h T o.op tm hp fun V hp'=>Zx3 (Zuo hp hp' (y::C)) (Zdj N o.dst V tm fun tm'=>ZaW N ls l (i+1) (y::C) tm' hp' k)
     |id0::ids=>match o.op with
      | .store t a x=>match evS tm a with
       |some (.ptr I j r)=>match Zka hp I&&Zi4 hp (id0::ids)&& !Zsa I (id0::ids)with
        |true=>opT P h T (.store t a x) tm hp fun V hp'=>Zdj N o.dst V tm fun tm'=>ZaW N ls l (i+1) (y::C) tm' hp' k
        |false=>False
       |_=>False
      | .call c=>match ZAK h tm c with
       |true=>opT P h T (.call c) tm hp fun V hp'=>Zdj N o.dst V tm fun tm'=>ZaW N ls l (i+1) (y::C) tm' hp' k
       |false=>match ZAB tm c with
        |some none=>opT P h T (.call c) tm hp fun V hp'=>Zdj N o.dst V tm fun tm'=>ZaW N ls l (i+1) (y::C) tm' hp' k
        |some (some I)=>match Zka hp I&&Zi4 hp (ZAa (y::C))&& !Zsa I (ZAa (y::C))with
         |true=>opT P h T (.call c) tm hp fun V hp'=>Zdj N o.dst V tm fun tm'=>ZaW N ls l (i+1) (y::C) tm' hp' k
         |false=>False
        |none=>False
      |_=>False
def ZzS:List Oper→List (Option Tmp)
 | []=> []
 |o::r=>o.dst::ZzS r
def Zx4 (k:Ex→TM→List SM→Prop) (next:TM→List SM→Prop):Ex→TM→List SM→Prop
 | .normal,tm,hp=>next tm hp
 |e,tm,hp=>k e tm hp
def ZsD (id:Nat) (k:Ex→TM→List SM→Prop):Ex→TM→List SM→Prop
 | .exit j,tm,hp=>match Nat.beq j id with
  |true=>k .normal tm hp
  |false=>k (.exit j) tm hp
 |e,tm,hp=>k e tm hp
def wpR (N:Nat) (ls:List Nat) (ops:Array Oper) (tm:TM) (hp:List SM) (k:TM→List SM→Prop):Prop:=
 match ls with
 | []=>wpOps P h T N (ZzS ops.toList) ops.toList tm hp k
 |j::ls=>match noG ops.toList with
  |true=>ZaW P h T N (j::ls) ops.toList 0 [] tm hp k
  |false=>False
def wp (F:Nat) (c:Cx):Code→TM→List SM→(Ex→TM→List SM→Prop)→Prop
 | .skip,tm,hp,k=>k .normal tm hp
 | .label _,tm,hp,k=>k .normal tm hp
 | .region id ops _,tm,hp,k=>match h.perm c.fid id with
  | []=>wpR P h T c.N (h.light c.fid id) ops tm hp fun tm' hp'=>k .normal tm' hp'
  |i::r=>wpR P h T c.N (h.light c.fid id) (rgo (i::r) ops) tm hp fun tm' hp'=>k .normal tm' hp'
 | .seq a b,tm,hp,k=>wp F c a tm hp (Zx4 k fun tm' hp'=>wp F c b tm' hp' k)
 | .cond x a b,tm,hp,k=>match evS tm x with
  |some (.v .b t)=>(t=true→wp F c a tm hp k)∧(t=false→wp F c b tm hp k)
  |_=>False
 | .block id b,tm,hp,k=>match h.keepB c.fid id with
  |none=>wp F c b tm hp (ZsD id k)
  |some _=>False
 | .loop b,tm,hp,k=>LoopOK P h F c b tm hp k
 | .exit id,tm,hp,k=>k (.exit id) tm hp
 | .ret,tm,hp,k=>k .ret tm hp
 |_,_,_,_=>False
def Zyo (tm:TM) (hp:List SM):List ResultVar→(List SV→Prop)→Prop
 | [],k=>k []
 | .tmp t::r,k=>match ZcD t tm with
  |some V=>Zyo tm hp r fun l=>k (V::l)
  |none=>False
 | .cell a t::r,k=>match ZcD a tm with
  |some V=>Zmm T t hp V fun V=>Zyo tm hp r fun l=>k (V::l)
  |none=>False
def ZAd:List SV→SV
 | [V]=>V
 |l=> .tup l
def ZcW:Nat→List SV→TM
 |_,[]=> []
 |i,V::r=>(i,V)::ZcW (i+1) r
def Zyr (rs:List ResultVar) (k:SV→List SM→Prop):Ex→TM→List SM→Prop
 | .exit _,_,_=>False
 |_,tm,hp=>Zyo T tm hp rs fun l=>k (ZAd l) hp
inductive Im where
 |is (id:Nat)|nil
def ZyP:(t C:CT)→List t.D→List C.D→Prop
 | .i k, .i I,l,j=>match keq k I with
  |true=>j=l
  |false=>False
 | .b, .b,l,j=>j=l
 | .s, .s,l,j=>j=l
 |t,C,l,j=>if h:ceq t C=true then j=ZgV t C h l else False
def ZAf (σ:List Im):SV→SV→Prop
 | .v (.i k) x, .v (.i U) C=>match keq k U with
  |true=>C=x
  |false=>False
 | .v .b x, .v .b C=>C=x
 | .v .s x, .v .s C=>C=x
 | .v .any x, .v .any C=>C=x
 | .v (.l e) x, .v (.l e') C=>ZyP e e' x C
 | .nils, .v (.l t) C=>C=([]:List t.D)
 | .nils, .nils=>True
 | .nilp, .nilp=>True
 | .nilf, .nilf=>True
 | .nili, .nili=>True
 | .nils, .ref j I n' J=>match nth σ j with
  |some .nil=>I=0∧n'=0∧J.getD n'=0
  |_=>False
 | .ref id i n m, .ref j I n' J=>match nth σ j with
  |some (.is d)=>match Nat.beq d id with
   |true=>I=i∧n'=n∧J.getD n'=m.getD n
   |false=>False
  |_=>False
 | .ptr id i r, .ptr j I R=>match nth σ j with
  |some (.is d)=>match Nat.beq d id with
   |true=>I=i∧R=r
   |false=>False
  |_=>False
 | .box t x r, .box t' C R=>ZyP t t' [x] [C]∧R=r
 |_,_=>False
def Znx (σ:List Im):List SV→List SV→Prop
 | [],[]=>True
 |a::l,b::r=>ZAf σ a b∧Znx σ l r
 |_,_=>False
def ZAh (σ:List Im):SV→SV→Prop
 | .func f a c, .func C I J=>C=f∧Znx σ a I∧Znx σ c J
 | .agg cs, .agg j=>Znx σ cs j
 | .tup cs, .tup j=>Znx σ cs j
 |a,b=>ZAf σ a b
def ZuA (σ:List Im) (tm:TM):TM→Prop
 | []=>True
 |(i,V')::r=>match ZcD i tm with
  |some V=>ZAh σ V V'∧ZuA σ tm r
  |none=>False
def ZAV (σ:List Im) (hp:List SM):Im→SM→Prop
 | .is id, .row J j C=>match nth hp id with
  |some (.row t l m)=>ZyP t J l j∧(C=true→m=true)
  |_=>False
 | .nil, .row _ j _=>j=[]
 | .is id, .cell I C=>match nth hp id with
  |some (.cell cs m)=>Znx σ cs I∧(C=true→m=true)
  |_=>False
 |_, .dead=>True
 |_,_=>False
def Zu5 (σ:List Im) (hp:List SM):List Im→List SM→Prop
 |_,[]=>True
 | [],_=>False
 |s::ss,m::ms=>ZAV σ hp s m∧Zu5 σ hp ss ms
def Zhq:List Im→Bool
 | []=>true
 | .nil::r=>Zhq r
 | .is i::r=>(r.all fun x=>match x with| .is j=> !Nat.beq i j| .nil=>true)&&Zhq r
def ZpE:Nat→List Im→Bool
 |0,_=>true
 |F+1,l=>match nth l F with
  |some (.is i)=>Nat.beq i F&&ZpE F l
  |_=>false
def Zy6 (j:Nat):SV→SV→Option Im
 |a, .ref C _ _ _=>match Nat.beq C j with
  |true=>match a with
   | .ref id _ _ _=>some (.is id)
   | .nils=>some .nil
   |_=>none
  |false=>none
 |a, .ptr C _ _=>match Nat.beq C j with
  |true=>match a with
   | .ptr id _ _=>some (.is id)
   |_=>none
  |false=>none
 |_,_=>none
def ZpG (j:Nat):List SV→List SV→Option Im
 |a::l,b::r=>match Zy6 j a b with
  |some x=>some x
  |none=>ZpG j l r
 |_,_=>none
def ZA0 (j:Nat):SV→SV→Option Im
 | .agg cs, .agg C=>ZpG j cs C
 | .func _ a c, .func _ I J=>ZpG j (a++c) (I++J)
 |a,b=>Zy6 j a b
def ZvD (j:Nat) (tm:TM):TM→Option Im
 | []=>none
 |(i,V')::r=>match ZcD i tm with
  |some V=>match ZA0 j V V' with
   |some x=>some x
   |none=>ZvD j tm r
  |none=>ZvD j tm r
def ZtT (j:Nat) (hp:List SM) (σ:Nat→Option Im):Nat→List SM→Option Im
 |_,[]=>none
 |n, .cell C _::r=>match σ n with
  |some (.is id)=>match nth hp id with
   |some (.cell cs _)=>match ZpG j cs C with
    |some x=>some x
    |none=>ZtT j hp σ (n+1) r
   |_=>ZtT j hp σ (n+1) r
  |_=>ZtT j hp σ (n+1) r
 |n,_::r=>ZtT j hp σ (n+1) r
def Zz1 (tm tm':TM) (hp hp':List SM):Nat→List SM→List Im
 |_,[]=> []
 |j,m::r=>(match m with
  | .dead=> .nil
  |_=>match ZvD j tm tm' with
   |some s=>s
   |none=>match ZtT j hp (fun n=>ZvD n tm tm') 0 hp' with
    |some s=>s
    |none=> .nil)::Zz1 tm tm' hp hp' (j+1) r
structure Ent (F:Nat) (tm:TM) (hp:List SM) (tm':TM) (hp':List SM):Prop where
 out: ∀φ st,F≤φ.length→SRep φ tm hp st→ ∃φ',Fr F φ φ'∧SRep φ' tm' hp' st
end
open Go.Am
theorem All2.len {α β:Type} {R:α→β→Prop}: ∀ {l:List α} {m:List β},All2 R l m→l.length=m.length
 | [],[],_=>rfl
 |_::_,_::_,h=>by simp only[Xap,All2.len h.2]
theorem All2.get {α β:Type} {R:α→β→Prop}: ∀ {l:List α} {m:List β} {i:Nat} {x:α},All2 R l m→l[i]? =some x→ ∃y,m[i]? =some y∧R x y
 | [],[],_,_,_,h=>by simp at h
 |a::l,b::m,0,x,h,j=>by simp at j;subst j;exact⟨b,rfl,h.1⟩
 |a::l,b::m,i+1,x,h,j=>by simp at j⊢;exact All2.get h.2 j
theorem All2.set {α β:Type} {R:α→β→Prop} {x:α} {y:β} (j:R x y): ∀ {l:List α} {m:List β} (i:Nat),All2 R l m→All2 R (l.set i x) (m.set i y)
 | [],[],_,_=>trivial
 |a::l,b::m,0,h=>⟨j,h.2⟩
 |a::l,b::m,i+1,h=>⟨h.1,All2.set j i h.2⟩
theorem All2.app {α β:Type} {R:α→β→Prop}: ∀ {l j:List α} {m C:List β},All2 R l m→All2 R j C→All2 R (l++j) (m++C)
 | [],_,[],_,_,h=>h
 |_::_,_,_::_,_,h,I=>⟨h.1,All2.app h.2 I⟩
theorem All2.drop {α β:Type} {R:α→β→Prop}: ∀ {l:List α} {m:List β} (i:Nat),All2 R l m→All2 R (l.drop i) (m.drop i)
 |l,m,0,h=>by simpa using h
 | [],[],_+1,_=>trivial
 |_::_,_::_,i+1,h=>All2.drop i h.2
theorem All2.take {α β:Type} {R:α→β→Prop}: ∀ {l:List α} {m:List β} (i:Nat),All2 R l m→All2 R (l.take i) (m.take i)
 |l,m,0,h=>by simp only[Xa5];trivial
 | [],[],_+1,_=>trivial
 |_::_,_::_,i+1,h=>⟨h.1,All2.take i h.2⟩
theorem All2.sub {α β:Type} {R:α→β→Prop} {l:List α} {m:List β} (i n:Nat) (h:All2 R l m):All2 R (sub l i n) ((m.drop i).take n):=All2.take n (All2.drop i h)
theorem All2.rep {α β:Type} {R:α→β→Prop} {x:α} {y:β} (j:R x y): ∀n,All2 R (List.replicate n x) (List.replicate n y)
 |0=>trivial
 |n+1=>⟨j,All2.rep j n⟩
theorem All2.spl {α β:Type} {R:α→β→Prop} {l j:List α} {m C:List β} (i:Nat) (h:All2 R l m) (I:All2 R j C):All2 R (spl l i j) (splice m i C):=by
 unfold Tx.spl splice
 rw[←I.len]
 exact All2.app (All2.take i h) (All2.app I (All2.drop _ h))
theorem All2.imp {α β:Type} {R Q:α→β→Prop} (j: ∀a b,R a b→Q a b): ∀ {l:List α} {m:List β},All2 R l m→All2 Q l m
 | [],[],_=>trivial
 |_::_,_::_,h=>⟨j _ _ h.1,All2.imp j h.2⟩
theorem All2.mem {α β:Type} {R:α→β→Prop} {y:β}: ∀ {l:List α} {m:List β},All2 R l m→y∈m→ ∃x,x∈l∧R x y
 | [],[],_,hy=>by simp at hy
 | [],_::_,h,_=>h.elim
 |a::l,b::m,h,hy=>by
  rcases Xav.1 hy with rfl|hy
  ·exact⟨a,Xah,h.1⟩
  ·obtain⟨x,j,C⟩:=All2.mem h.2 hy
   exact⟨x,Xai _ j,C⟩
theorem Za5 {α:Type}: ∀ (l:List α) (n:Nat),nth l n=l[n]?
 | [],_=>by simp[nth]
 |_::_,0=>rfl
 |_::l,n+1=>by simpa[nth]using Za5 l n
theorem RR.len: ∀ {t:CT} {x:t.D} {cs:List PV},RR t x cs→cs.length=t.w
 | .i _,_,_,h| .b,_,_,h| .s,_,_,h| .any,_,_,h=>by simp only[RR]at h;subst h;rfl
 | .l _,_,_,h=>by
  simp only[RR]at h
  rcases h with⟨rfl,_⟩|⟨es,rfl,_⟩<;>rfl
 | .p a c,x,cs,h=>by
  simp only[RR]at h
  obtain⟨u,v,rfl,j,C⟩:=h
  rw[Xaw,RR.len j,RR.len C];rfl
def ZcX:PV→Bool
 | .bool _| .int _ _| .str _| .nils| .lst _| .nili| .ifc _ _=>true
 |_=>false
theorem RR.plain: ∀ {t:CT} {x:t.D} {cs:List PV},RR t x cs→ ∀q∈cs,ZcX q=true
 | .i _,_,_,h,q,hq| .b,_,_,h,q,hq| .s,_,_,h,q,hq=>by simp only[RR]at h;subst h;rw[Xat.1 hq];rfl
 | .any,x,_,h,q,hq=>by simp only[RR]at h;subst h;rw[Xat.1 hq];cases x<;>rfl
 | .l _,_,_,h,q,hq=>by
  simp only[RR]at h
  rcases h with⟨rfl,_⟩|⟨es,rfl,_⟩<;>(rw[Xat.1 hq];rfl)
 | .p a c,x,cs,h,q,hq=>by
  simp only[RR]at h
  obtain⟨u,v,rfl,j,C⟩:=h
  rcases XaA.1 hq with hq|hq
  ·exact RR.plain j q hq
  ·exact RR.plain C q hq
theorem Le.refl (φ:Ph):Le φ φ:=fun _ _ h=>h
theorem Le.trans {a b c:Ph} (h:Le a b) (j:Le b c):Le a c:=fun i o hi=>j i o (h i o hi)
theorem Le.app (φ j:Ph):Le φ (φ++j):=fun i o h=>by
 have hi:=(Xae.1 h).1
 rw[Xar hi];exact h
theorem Le.fr {φ φ':Ph} (h:Le φ φ') {F:Nat} (j:F≤φ.length):Fr F φ φ':=fun id hid=>by
 have:φ[id]? =some φ[id]:=Xac (by omega)
 rw[this];exact h _ _ this
theorem Fr.refl (F:Nat) (φ:Ph):Fr F φ φ:=fun _ _=>rfl
theorem Fr.trans {F:Nat} {a b c:Ph} (h:Fr F a b) (j:Fr F b c):Fr F a c:=fun i hi=>(j i hi).trans (h i hi)
theorem Fr.le {φ φ':Ph} {F:Nat} (h:Fr F φ φ') (C:φ.length≤F):Le φ φ':=fun id o j=>by
 rw[h id (XaJ (Xae.1 j).1 C)];exact j
mutual
theorem RV.mono {φ φ':Ph} (J:Le φ φ'): ∀ (V:SV) (q:PV),RV φ V q→RV φ' V q
 | .v _ _,_,h| .nilp,_,h| .nils,_,h| .nilf,_,h| .nili,_,h| .nilmp,_,h| .box _ _ _,_,h=>by simpa only[RV]using h
 | .ref id i n m,q,h=>by
  simp only[RV]at h⊢
  rcases h with⟨a,j,C⟩|⟨j,C⟩
  ·exact .inl ⟨a,J _ _ j,C⟩
  ·exact .inr ⟨J _ _ j,C⟩
 | .ptr id i r,q,h=>by
  simp only[RV]at h⊢
  obtain⟨a,j,C⟩:=h
  exact⟨a,J _ _ j,C⟩
 | .func f a c,q,h=>by
  simp only[RV]at h⊢
  obtain⟨R,U,j,C,h3⟩:=h
  exact⟨R,U,j,RL.mono J a R C,RL.mono J c U h3⟩
 | .agg cs,q,h=>by
  simp only[RV]at h⊢
  obtain⟨I,j,C⟩:=h
  exact⟨I,j,RL.mono J cs I C⟩
 | .tup cs,q,h=>by
  simp only[RV]at h⊢
  obtain⟨I,j,C⟩:=h
  exact⟨I,j,RL.mono J cs I C⟩
 | .mp id,q,h=>by
  simp only[RV]at h⊢
  obtain⟨a,j,C⟩:=h
  exact⟨a,J _ _ j,C⟩
theorem RL.mono {φ φ':Ph} (C:Le φ φ'): ∀ (l:List SV) (j:List PV),RL φ l j→RL φ' l j
 | [],_,h=>by simpa only[RL]using h
 |v::vs,j,h=>by
  simp only[RL]at h⊢
  obtain⟨q,r,I,J,R⟩:=h
  exact⟨q,r,I,RV.mono C v q J,RL.mono C vs r R⟩
end
theorem RL.len {φ:Ph}: ∀ {l:List SV} {j:List PV},RL φ l j→l.length=j.length
 | [],_,h=>by simp only[RL]at h;subst h;rfl
 |v::vs,_,h=>by
  simp only[RL]at h
  obtain⟨q,r,rfl,_,C⟩:=h
  simp only[Xap,RL.len C]
theorem RL.get {φ:Ph}: ∀ {l:List SV} {j:List PV} {i:Nat} {V:SV},RL φ l j→l[i]? =some V→ ∃q,j[i]? =some q∧RV φ V q
 | [],_,_,_,_,hi=>by simp at hi
 |v::vs,_,i,V,h,hi=>by
  simp only[RL]at h
  obtain⟨q,r,rfl,C,I⟩:=h
  cases i with
  |zero=>simp at hi;subst hi;exact⟨q,rfl,C⟩
  |succ i=>simp at hi⊢;exact RL.get I hi
theorem RL.app {φ:Ph}: ∀ {l m:List SV} {C rs:List PV},RL φ l C→RL φ m rs→RL φ (l++m) (C++rs)
 | [],_,_,_,h,j=>by simp only[RL]at h;subst h;exact j
 |v::vs,_,_,_,h,j=>by
  simp only[RL]at h
  obtain⟨q,r,rfl,I,J⟩:=h
  simp only[XbH,RL]
  exact⟨q,_,rfl,I,RL.app J j⟩
theorem RL.drop {φ:Ph}: ∀ {l:List SV} {j:List PV} (n:Nat),RL φ l j→RL φ (l.drop n) (j.drop n)
 |l,j,0,h=>by simpa using h
 | [],_,n+1,h=>by simp only[RL]at h;subst h;simp[RL]
 |v::vs,_,n+1,h=>by
  simp only[RL]at h
  obtain⟨q,r,rfl,I,C⟩:=h
  simpa using RL.drop n C
theorem RL.take {φ:Ph}: ∀ {l:List SV} {j:List PV} (n:Nat),RL φ l j→RL φ (l.take n) (j.take n)
 |l,j,0,h=>by simp[RL]
 | [],_,n+1,h=>by simp only[RL]at h;subst h;simp[RL]
 |v::vs,_,n+1,h=>by
  simp only[RL]at h
  obtain⟨q,r,rfl,C,I⟩:=h
  simp only[List.take_succ_cons,RL]
  exact⟨q,_,rfl,C,RL.take n I⟩
theorem RL.spl {φ:Ph} {l m:List SV} {j rs:List PV} (i:Nat) (h:RL φ l j) (C:RL φ m rs):RL φ (spl l i m) (splice j i rs):=by
 unfold Tx.spl splice
 rw[←C.len]
 exact RL.app (RL.take i h) (RL.app C (RL.drop _ h))
theorem Zf0 {φ:Ph}: ∀ {t:CT} {x:t.D} {cs:List PV},RR t x cs→RL φ (ZcM t x) cs
 | .i k,x,cs,h=>by
  have j:=h;simp only[RR]at j;subst j
  simp only[ZcM,RL,RV];exact⟨_,_,rfl,h,rfl⟩
 | .b,x,cs,h=>by
  have j:=h;simp only[RR]at j;subst j
  simp only[ZcM,RL,RV];exact⟨_,_,rfl,h,rfl⟩
 | .s,x,cs,h=>by
  have j:=h;simp only[RR]at j;subst j
  simp only[ZcM,RL,RV];exact⟨_,_,rfl,h,rfl⟩
 | .any,x,cs,h=>by
  have j:=h;simp only[RR]at j;subst j
  simp only[ZcM,RL,RV];exact⟨_,_,rfl,h,rfl⟩
 | .l e,x,cs,h=>by
  have j:=h;simp only[RR]at j
  rcases j with⟨rfl,_⟩|⟨es,rfl,_⟩<;>(simp only[ZcM,RL,RV];exact⟨_,_,rfl,h,rfl⟩)
 | .p a c,x,cs,h=>by
  simp only[RR]at h
  obtain⟨u,v,rfl,C,I⟩:=h
  simp only[ZcM]
  exact RL.app (Zf0 C) (Zf0 I)
theorem Zgb {e j:CT} (h:ceq e j=true) (xs:List e.D) {es:List (List PV)} (C:All2 (RR e) xs es):All2 (RR j) (ZgV e j h xs) es:=by
 have he:=ZiI h
 subst he
 exact C
theorem RL1 {φ:Ph} {V:SV} {j:List PV} (h:RL φ [V] j): ∃q,j=[q]∧RV φ V q:=by
 simp only[RL]at h
 obtain⟨q,r,rfl,C,rfl⟩:=h
 exact⟨q,rfl,C⟩
theorem Zdh {φ:Ph}: ∀ {t:CT} {cs:List SV} {x:t.D} {I:List PV},ZbW t cs=some x→RL φ cs I→RR t x I
 | .p a c,cs,x,I,h,C=>by
  simp only[ZbW]at h
  split at h
  ·rename_i y U
   split at h
   ·rename_i z hz
    cases h
    simp only[RR]
    exact⟨_,_,(XaR a.w I).symm,Zdh U (RL.take _ C),Zdh hz (RL.drop _ C)⟩
   ·cases h
  ·cases h
 | .i k,cs,x,I,h,C=>by
  simp only[ZbW]at h
  split at h
  ·rename_i k' y
   cases J:keq k k' with
   |false=>rw[J]at h;cases h
   |true=>
    rw[J]at h;cases h
    obtain⟨q,rfl,j⟩:=RL1 C
    rw[Zfy J]
    simpa only[RV]using j
  ·cases h
 | .b,cs,x,I,h,C=>by
  simp only[ZbW]at h
  split at h
  ·cases h
   obtain⟨q,rfl,j⟩:=RL1 C
   simpa only[RV]using j
  ·cases h
 | .s,cs,x,I,h,C=>by
  simp only[ZbW]at h
  split at h
  ·cases h
   obtain⟨q,rfl,j⟩:=RL1 C
   simpa only[RV]using j
  ·cases h
 | .any,cs,x,I,h,C=>by
  simp only[ZbW]at h
  split at h
  ·cases h
   obtain⟨q,rfl,j⟩:=RL1 C
   simpa only[RV]using j
  ·cases h
   obtain⟨q,rfl,j⟩:=RL1 C
   simp only[RV]at j
   subst j
   rfl
  ·cases h
 | .l e,cs,x,I,h,C=>by
  simp only[ZbW]at h
  split at h
  ·rename_i e' y
   split at h
   ·rename_i he
    cases h
    obtain⟨q,rfl,j⟩:=RL1 C
    simp only[RV,RR]at j⊢
    have R:=ZiI he
    subst R
    exact j
   ·cases h
  ·cases h
   obtain⟨q,rfl,j⟩:=RL1 C
   simp only[RV]at j
   subst j
   show _∨_
   exact .inl ⟨rfl,rfl⟩
  ·cases h
def KM (P:Program) (t:TypeId):TK→Prop
 | .int k=>P.underlying t=some (.int k)
 | .bool=>P.underlying t=some .bool
 | .str=>P.underlying t=some .string
 | .slice e=>P.underlying t=some (.slice e)
 | .arr n e=>P.underlying t=some (.array n e)
 | .struct j=> ∃a,P.underlying t=some (.struct a)∧(j.map fun x=>(x.1,x.2.1))=a.toList.map (fun f=>(f.offset,f.type))∧ ∀x∈j,Za1 P x.2.1=some x.2.2
 | .ptr=> ∃e,P.underlying t=some (.pointer e)
 | .func=> ∃ps rs v,P.underlying t=some (.func ps rs v)
 | .smap=> ∃k e,P.underlying t=some (.map k e)∧Zjy P t=some (.string,e)∧ZcU P e=some (.bool false)
 | .any=> ∃x,P.underlying t=some (.interface x)
 | .other=>True
structure TIok (P:Program) (t:TypeId) (i:TI):Prop where
 k:KM P t i.k
 sz:Za1 P t=some i.sz
 by_:ZiU P t=some i.by_
 zero: ∃zs,Zdn P t=some zs∧(∀φ,RL φ i.zero zs)∧zs.length=i.sz
 ct: ∀c,i.ct=some c→c.w=i.sz∧ ∀zs,Zdn P t=some zs→RR c c.z zs
 zi: ∀k,i.k= .int k→ZcU P t=some (.int k 0)
 zs:i.k= .str→ZcU P t=some (.str ⟨#[]⟩)
def TysOK (P:Program) (T:TypeId→TI):Prop:= ∀t,(T t).k= .other∨TIok P t (T t)
theorem TysOK.get {P:Program} {T:TypeId→TI} (h:TysOK P T) {t:TypeId} {k:TK} (j:(T t).k=k) (C:k≠ .other):TIok P t (T t):=by
 rcases h t with h|h
 ·exact absurd (j.symm.trans h) C
 ·exact h
def ValOK (φ:Ph) (k:SV→Prop) (r:Option PV):Prop:= ∃q V,r=some q∧RV φ V q∧k V
def OutOK (φ:Ph) (k:SV→List SM→Prop) (r:ZlE):Prop:= ∃q H' φ' V hp',r=some (q,H')∧Le φ φ'∧RH φ' hp' (fun a=>H'[a]?)∧RV φ' V q∧k V hp'
theorem ValOK.mk {φ:Ph} {k:SV→Prop} {q:PV} {V:SV} (h:RV φ V q) (j:k V):ValOK φ k (some q):=⟨q,V,rfl,h,j⟩
theorem OutOK.of_val {φ:Ph} {k:SV→List SM→Prop} {hp:List SM} {H:List Mem} {r:Option PV} (j:RH φ hp (fun a=>H[a]?)) (h:ValOK φ (fun V=>k V hp) r):OutOK φ k (ZbY H r):=by
 obtain⟨q,V,rfl,C,I⟩:=h
 exact⟨q,H,φ,V,hp,rfl,Le.refl φ,j,C,I⟩
section
variable {P : Program} {T : TypeId → TI} {φ : Ph}
theorem ZbX {k:IntKind} {n:Int} {q:PV} (h:RV φ (.v (.i k) n) q):q= .int k n:=by
 simp only[RV,RR]at h;exact List.cons.inj h|>.1
theorem ZeM {b:Bool} {q:PV} (h:RV φ (.v .b b) q):q= .bool b:=by
 simp only[RV,RR]at h;exact List.cons.inj h|>.1
theorem ZeG {s:List UInt8} {q:PV} (h:RV φ (.v .s s) q):q= .str ⟨s.toArray⟩:=by
 simp only[RV,RR]at h;exact List.cons.inj h|>.1
theorem ZhN {e:CT} {xs:List e.D} {q:PV} (h:RV φ (.v (.l e) xs) q):(q= .nils∧xs=[])∨ ∃es,q= .lst es∧All2 (RR e) xs es:=by
 simp only[RV,RR,List.cons.injEq,and_true]at h;exact h
theorem vi (k:IntKind) (n:Int):RV φ (.v (.i k) n) (.int k n):=by simp only[RV,RR]
theorem vb (b:Bool):RV φ (.v .b b) (.bool b):=by simp only[RV,RR]
theorem vs (s:List UInt8):RV φ (.v .s s) (.str ⟨s.toArray⟩):=by simp only[RV,RR]
theorem vs' (s:ByteArray):RV φ (.v .s s.data.toList) (.str s):=by simp only[RV,RR]
theorem ZxM {op:BinOp} {C I:IntKind} {a b:Int} {k:SV→Prop} (h:ZA9 op C a I b k):ValOK φ k (ZiW op C a I b):=by
 unfold ZA9 at h
 split at h
 ·simp only[ZiW];rw[if_neg (by omega)];exact .mk (vi _ _) h.2
 ·simp only[ZiW];rw[if_neg (by omega)];exact .mk (vi _ _) h.2
 ·split at h
  ·cases h
  ·rename_i j
   have j:=Zfy j
   subst j
   cases op<;>simp only[ZiW,if_true]at h⊢ <;>first
    |exact .mk (vi _ _) h
    |exact .mk (vb _) h
    |(rw[if_neg h.1];exact .mk (vi _ _) h.2)
    |(cases h;done)
    |skip
theorem Zjl (s:List UInt8):(ByteArray.mk s.toArray).data.toList=s:=by simp
theorem ZnB (s:List UInt8):(ByteArray.mk s.toArray).size=s.length:=by simp[ByteArray.size]
theorem ZzQ (a b:List UInt8):ByteArray.mk a.toArray++ByteArray.mk b.toArray=ByteArray.mk (a++b).toArray:=by
 apply ByteArray.ext
 simp[ByteArray.data_append]
theorem Zy5 (s:List UInt8) (l u:Nat):(ByteArray.mk s.toArray).extract l u=ByteArray.mk ((s.take u).drop l).toArray:=by
 apply ByteArray.ext
 rw[ByteArray.data_extract]
 apply Array.ext'
 simp[List.drop_take]
theorem Zxg {op:BinOp} {a b:List UInt8} {k:SV→Prop} (h:ZAt op a b k):ValOK φ k (ZmS op ⟨a.toArray⟩ ⟨b.toArray⟩):=by
 unfold ZAt at h
 cases op<;>simp only[ZmS,Zjl,ZnB]at h⊢ <;>first
  |(rw[if_pos h.1,ZzQ];exact .mk (vs _) h.2)
  |exact .mk (vb _) h
  |(cases h;done)
theorem ZfE {op:BinOp} {r:Bool} {k:SV→Prop} (h:eqB op r k):ValOK φ k (Zok op r):=by
 unfold eqB at h
 cases op<;>simp only[Zok]at h⊢ <;>first
  |exact .mk (vb _) h
  |(cases h;done)
end
open Go.Am
section
variable {P : Program} {T : TypeId → TI} {φ : Ph} {hp : List SM} {H : List Mem}
theorem RH.ph {L:Nat→Option Mem} (j:RH φ hp L) {id:Nat} {sm:SM} (h:nth hp id=some sm): ∃o,φ[id]? =some o∧RM φ L o sm:=by
 rw[Za5]at h
 have hi:=(Xae.1 h).1
 rw[←j.len]at hi
 exact⟨φ[id],Xac hi,j.row _ _ _ h (Xac hi)⟩
theorem RH.ref {L:Nat→Option Mem} (hh:RH φ hp L) {id i n:Nat} {R:Option Nat} {t:CT} {l:List t.D} {m:Bool} {q:PV} (h:nth hp id=some (.row t l m)) (hq:RV φ (.ref id i n R) q):
 (∃a es C,q= .ref a i n (R.getD n)∧φ[id]? =some (some a)∧L a=some (.row es t.w C)∧All2 (RR t) l es∧(m=true→C=true))∨(q= .nils∧l=[]∧i=0∧n=0∧R.getD n=0∧φ[id]? =some none):=by
 obtain⟨o,I,J⟩:=hh.ph h
 simp only[RV]at hq
 rcases hq with⟨a,j,U⟩|⟨j,U,h3,h4,h5⟩
 ·rw[j]at I;cases I
  simp only[RM]at J
  obtain⟨es,C,h3,h4,h5⟩:=J
  exact .inl ⟨a,es,C,U,j,h3,h4,h5⟩
 ·rw[j]at I;cases I
  simp only[RM]at J
  exact .inr ⟨U,J,h3,h4,h5,j⟩
theorem RH.refC {L:Nat→Option Mem} (hh:RH φ hp L) {id i n:Nat} {R:Option Nat} {cs:List SV} {m:Bool} {q:PV} (h:nth hp id=some (.cell cs m)) (U:RV φ (.ref id i n R) q):
 ∃a j C,q= .ref a i n (R.getD n)∧φ[id]? =some (some a)∧L a=some (.row [j] j.length C)∧RL φ cs j∧(m=true→C=true):=by
 obtain⟨o,I,hr⟩:=hh.ph h
 simp only[RV]at U
 simp only[RM]at hr
 obtain⟨a,j,C,rfl,h3,h4,h5⟩:=hr
 rcases U with⟨b,J,h2⟩|⟨J,_⟩
 ·rw[J]at I;cases I
  exact⟨a,j,C,h2,J,h3,h4,h5⟩
 ·rw[J]at I;cases I
theorem RH.ptr {L:Nat→Option Mem} (U:RH φ hp L) {id i r:Nat} {t:CT} {l:List t.D} {m:Bool} {q:PV} (h:nth hp id=some (.row t l m)) (C:RV φ (.ptr id i r) q):
 ∃a es j,q= .ptr a i r∧φ[id]? =some (some a)∧L a=some (.row es t.w j)∧All2 (RR t) l es∧(m=true→j=true):=by
 obtain⟨o,I,J⟩:=U.ph h
 simp only[RV]at C
 obtain⟨a,R,h2⟩:=C
 rw[R]at I;cases I
 simp only[RM]at J
 obtain⟨es,j,h3,h4,h5⟩:=J
 exact⟨a,es,j,h2,R,h3,h4,h5⟩
theorem RH.ptrC {L:Nat→Option Mem} (hh:RH φ hp L) {id i r:Nat} {cs:List SV} {m:Bool} {q:PV} (h:nth hp id=some (.cell cs m)) (I:RV φ (.ptr id i r) q):
 ∃a j C,q= .ptr a i r∧φ[id]? =some (some a)∧L a=some (.row [j] j.length C)∧RL φ cs j∧(m=true→C=true):=by
 obtain⟨o,J,R⟩:=hh.ph h
 simp only[RV]at I
 obtain⟨a,U,h2⟩:=I
 rw[U]at J;cases J
 simp only[RM]at R
 obtain⟨b,j,C,h6,h3,h4,h5⟩:=R
 cases h6
 exact⟨a,j,C,h2,U,h3,h4,h5⟩
theorem RH.refM {L:Nat→Option Mem} (hh:RH φ hp L) {id i n:Nat} {U:Option Nat} {ct:CT} {j:List SV} {m:Bool} {q:PV} (h:nth hp id=some (.many ct j m)) (hq:RV φ (.ref id i n U) q):
 (∃a es I,q= .ref a i n (U.getD n)∧φ[id]? =some (some a)∧L a=some (.row es 1 I)∧All2 (fun V c=> ∃q,c=[q]∧RV φ V q) j es∧(m=true→I=true))∨(q= .nils∧j=[]∧i=0∧n=0∧U.getD n=0∧φ[id]? =some none):=by
 obtain⟨o,J,R⟩:=hh.ph h
 simp only[RV]at hq
 rcases hq with⟨a,C,h2⟩|⟨C,h2,h3,h4,h5⟩
 ·rw[C]at J;cases J
  simp only[RM]at R
  obtain⟨es,I,h3,h4,h5⟩:=R
  exact .inl ⟨a,es,I,h2,C,h3,h4,h5⟩
 ·rw[C]at J;cases J
  simp only[RM]at R
  exact .inr ⟨h2,R,h3,h4,h5,C⟩
theorem RH.ptrM {L:Nat→Option Mem} (hh:RH φ hp L) {id i r:Nat} {ct:CT} {j:List SV} {m:Bool} {q:PV} (h:nth hp id=some (.many ct j m)) (I:RV φ (.ptr id i r) q):
 ∃a es C,q= .ptr a i r∧φ[id]? =some (some a)∧L a=some (.row es 1 C)∧All2 (fun V c=> ∃q,c=[q]∧RV φ V q) j es∧(m=true→C=true):=by
 obtain⟨o,J,R⟩:=hh.ph h
 simp only[RV]at I
 obtain⟨a,U,h2⟩:=I
 rw[U]at J;cases J
 simp only[RM]at R
 obtain⟨es,C,h3,h4,h5⟩:=R
 exact⟨a,es,C,h2,U,h3,h4,h5⟩
theorem Ziq: ∀ {xs:List SV} {a as:List PV},ZlU xs=some a→RL φ xs as→as=a
 | [],a,as,h,j=>by cases h;simpa only[RL]using j
 |x::xs,a,as,h,j=>by
  simp only[RL]at j
  obtain⟨q,r,rfl,C,J⟩:=j
  simp only[ZlU]at h
  split at h
  ·rename_i c l I R
   cases h
   rw[Ziq R J]
   congr 1
   unfold ZzX at I
   split at I<;>cases I
   ·exact ZbX C
   ·exact ZeM C
   ·exact ZeG C
  ·cases h
theorem ZxX (J:TysOK P T) {op:BinOp} {t:TypeId} {x y:SV} {a b:PV} {k:SV→Prop} (h:ZAD P T op t x y k) (C:RV φ x a) (I:RV φ y b):ValOK φ k (Zgs P op t a b):=by
 unfold ZAD at h
 split at h
 ·split at h
  ·rename_i U hb
   simp only[RV]at C I
   obtain⟨cs,rfl,h1⟩:=C
   obtain⟨aa,rfl,h2⟩:=I
   rw[Ziq U h1,Ziq hb h2]
   obtain⟨r,e,h⟩:=h
   simp only[Zgs,e,Xab]
   exact ZfE h
  ·cases h
 ·rw[ZbX C,ZbX I];exact ZxM h
 ·rw[ZeG C,ZeG I];exact Zxg h
 ·rw[ZeM C,ZeM I]
  split at h
  ·rename_i j
   have:=(J.get j (by simp)).k
   rw[j]at this
   simp only[Zgs,ZkL,show P.underlying t=_ from this,if_true]
   exact ZfE h
  ·cases h
 ·simp only[RV]at C I;subst C;subst I
  split at h
  ·rename_i j
   have:=(J.get j (by simp)).k
   rw[j]at this
   obtain⟨e,he⟩:=this
   simp only[Zgs,Zhu,he,if_true]
   exact ZfE h
  ·cases h
 ·simp only[RV]at C I;subst I
  obtain⟨_,_,rfl⟩:=C
  split at h
  ·rename_i j
   have:=(J.get j (by simp)).k
   rw[j]at this
   obtain⟨e,he⟩:=this
   simp only[Zgs,Zhu,he,if_true]
   exact ZfE h
  ·cases h
 ·simp only[RV]at C I;subst I
  obtain⟨_,rfl,_⟩:=C
  split at h
  ·rename_i j
   have:=(J.get j (by simp)).k
   rw[j]at this
   obtain⟨e,he⟩:=this
   simp only[Zgs,Zhu,he,if_true]
   exact ZfE h
  ·cases h
 ·simp only[RV]at C I;subst C;subst I
  split at h
  ·rename_i j
   have:=(J.get j (by simp)).k
   rw[j]at this
   simp only[Zgs,ZcC,show P.underlying t=_ from this,if_true]
   exact ZfE h
  ·cases h
 ·simp only[RV,RR]at C I;subst I
  split at h
  ·rename_i j
   have:=(J.get j (by simp)).k
   rw[j]at this
   rcases C with⟨e,R⟩|⟨es,e,_⟩
   ·cases e
    simp only[Zgs,ZcC,show P.underlying t=_ from this,if_true]
    exact ZfE (h.1 R)
   ·cases e
    simp only[Zgs,ZcC,show P.underlying t=_ from this,if_true]
    exact ZfE h.2
  ·cases h
 ·simp only[RV]at C I;subst I
  split at h
  ·rename_i j
   have:=(J.get j (by simp)).k
   rw[j]at this
   rcases C with⟨_,_,rfl⟩|⟨_,rfl,_,hn,_⟩
   ·simp only[Zgs,ZcC,show P.underlying t=_ from this,if_true]
    exact ZfE h.2
   ·simp only[Zgs,ZcC,show P.underlying t=_ from this,if_true]
    exact ZfE (h.1 hn)
  ·cases h
 ·cases h
theorem Zzi {op:UnOp} {x:SV} {a:PV} {k:SV→Prop} (h:unT op x k) (j:RV φ x a):ValOK φ k (ZAi op a):=by
 unfold unT at h
 split at h
 ·rw[ZbX j];exact .mk (vi _ _) h
 ·rw[ZeM j];exact .mk (vb _) h
 ·rw[ZbX j];exact .mk (vi _ _) h
 ·cases h
theorem KM.some {t:TypeId} {k:TK} (h:KM P t k) (j:k≠ .other): ∃u,P.underlying t=some u:=by
 cases k<;>first
  |exact⟨_,h⟩
  |(obtain⟨_,h,_⟩:=h;exact⟨_,h⟩)
  |(obtain⟨_,h⟩:=h;exact⟨_,h⟩)
  |(obtain⟨_,_,_,h⟩:=h;exact⟨_,h⟩)
  |(obtain⟨_,_,h,_⟩:=h;exact⟨_,h⟩)
  |exact absurd rfl j
theorem Zj7 (a:List UInt8):All2 (RR (.i .u8)) (ZdH a) (byteCells ⟨a.toArray⟩):=by
 unfold byteCells ZdH
 rw[Zjl]
 induction a with
 |nil=>trivial
 |cons x r j=>exact⟨rfl,j⟩
theorem ZfX: ∀ {xs:List Int} {es:List (List PV)},All2 (RR (.i .u8)) xs es→bytesOf es=some (Zja xs)
 | [],[],_=>rfl
 |x::xs,e::es,h=>by
  have j:=h.1
  simp only[RR]at j
  subst j
  simp only[bytesOf,ZfX h.2,Xak]
  rfl
theorem Zuc (I:TysOK P T) (hh:RH φ hp (fun a=>H[a]?)) {s d:TypeId} {x:SV} {a:PV} {k:SV→Prop} (h:Zxq T s d hp x k) (hx:RV φ x a):ValOK φ k (ZcY P H s d a):=by
 have known: ∀t,(T t).k≠ .other→ ∃u,P.underlying t=some u:=fun t ho=>KM.some (I.get rfl ho).k ho
 unfold Zxq at h
 split at h
 ·cases h
 ·rename_i j C
  obtain⟨u,hu⟩:=known s (fun e=>C e)
  have:=(I.get j (by simp)).k
  rw[j]at this
  rw[ZbX hx]
  simp only[ZcY,hu,show P.underlying d=_ from this]
  exact .mk (vi _ _) h
 ·rename_i C j
  obtain⟨⟨h0,J⟩,h⟩:=h
  have e1:=(I.get C (by simp)).k
  have e2:=(I.get j (by simp)).k
  rw[C]at e1;rw[j]at e2
  rw[ZbX hx,Zzn (by rw[show P.underlying s=_ from e1];rfl) e2 _ h0 J]
  exact .mk (vs _) h
 ·rename_i j C
  obtain⟨u,hu⟩:=known s (fun e=>C e)
  have:=(I.get j (by simp)).k
  rw[j]at this
  rw[ZeG hx]
  simp only[ZcY,hu,show P.underlying d=_ from this]
  exact .mk (vs _) h
 ·rename_i C j
  split at h
  ·rename_i he
   have J:=(I.get C (by simp)).k
   have R:=(I.get j (by simp)).k
   have U:=(I.get he (by simp)).k
   rw[C]at J;rw[j]at R;rw[he]at U
   rw[ZeG hx]
   simp only[ZcY,show P.underlying s=_ from J,show P.underlying d=_ from R,show P.underlying _=_ from U]
   refine .mk ?_ h
   simp only[RV,RR]
   exact .inr ⟨_,rfl,Zj7 _⟩
  ·cases h
 ·rename_i C j
  split at h
  ·rename_i he
   have J:=(I.get C (by simp)).k
   have R:=(I.get j (by simp)).k
   have U:=(I.get he (by simp)).k
   rw[C]at J;rw[j]at R;rw[he]at U
   rcases ZhN hx with⟨rfl,rfl⟩|⟨es,rfl,aa⟩
   ·simp only[ZcY,show P.underlying s=_ from J,show P.underlying d=_ from R,show P.underlying _=_ from U,elems,Xab,bytesOf,Xak]
    exact .mk (vs _) h
   ·simp only[ZcY,show P.underlying s=_ from J,show P.underlying d=_ from R,show P.underlying _=_ from U,elems,Xab,ZfX aa,Xak]
    exact .mk (vs _) h
  ·cases h
 ·rename_i C j
  split at h
  ·rename_i he
   split at h
   ·rename_i ab
    have J:=(I.get C (by simp)).k
    have R:=(I.get j (by simp)).k
    have U:=(I.get he (by simp)).k
    rw[C]at J;rw[j]at R;rw[he]at U
    rcases hh.ref ab hx with⟨a',es,m',rfl,_,ha,aa,_⟩|⟨rfl,rfl,rfl,rfl,_,_⟩
    ·have hl:=aa.len
     simp only[ZcY,show P.underlying s=_ from J,show P.underlying d=_ from R,show P.underlying _=_ from U,elems,show H[a']? =_ from ha]
     rw[if_pos (by omega)]
     simp only[Xab,ZfX (aa.sub _ _),Xak]
     exact .mk (vs _) h.2
    ·simp only[ZcY,show P.underlying s=_ from J,show P.underlying d=_ from R,show P.underlying _=_ from U,elems,Xab,bytesOf,Xak]
     exact .mk (vs _) h.2
   ·cases h
  ·cases h
 ·cases h
theorem ZoV {t:TypeId} (I:TysOK P T) (C:(T t).k≠ .other):Za1 P t=some (T t).sz∧Zq1 P t=some (match(T t).k with| .struct _| .arr _ _=>true|_=>false):=by
 have h:=I.get rfl C
 refine⟨h.sz, ?_⟩
 have j:=h.k
 revert j
 cases j:(T t).k<;>intro hm<;>simp only[KM]at hm<;>first
  |(simp only[Zq1,hm];done)
  |(obtain⟨_,hm,_⟩:=hm;simp only[Zq1,hm];done)
  |(obtain⟨_,hm⟩:=hm;simp only[Zq1,hm];done)
  |(obtain⟨_,_,_,hm⟩:=hm;simp only[Zq1,hm];done)
  |(obtain⟨_,_,hm,_⟩:=hm;simp only[Zq1,hm];done)
  |exact absurd j C
theorem Zfr (hT:TysOK P T) {t:TypeId} {cs:List SV} {C:List PV} {off:Nat} {V:SV} (h:ZgN (T t) cs off=some V) (I:RL φ cs C): ∃q,Zdd P t C off=some q∧RV φ V q:=by
 have J:(T t).k≠ .other:=by
  intro J
  unfold ZgN at h
  rw[J]at h
  cases h
 obtain⟨h1,j⟩:=ZoV hT J
 have hl:=I.len
 have agg: ∀V,(bif Nat.ble (off+(T t).sz) cs.length then some (SV.agg ((cs.drop off).take (T t).sz))else none)=some V→Zq1 P t=some true→ ∃q,Zdd P t C off=some q∧RV φ V q:=by
  intro V h j
  cases R:Nat.ble (off+(T t).sz) cs.length with
  |false=>rw[R]at h;cases h
  |true=>
   rw[R]at h;cases h
   have:=Xal R
   simp only[Zdd,j,h1,Xab]
   rw[if_pos (by omega)]
   refine⟨_,rfl, ?_⟩
   simp only[RV]
   exact⟨_,rfl,RL.take _ (RL.drop _ I)⟩
 unfold ZgN at h
 split at h
 ·rename_i U
  rw[U]at j
  exact agg V h j
 ·rename_i U
  rw[U]at j
  exact agg V h j
 ·cases h
 ·rename_i h3 h4 h5
  rw[Za5]at h
  obtain⟨q,aa,ab⟩:=I.get h
  refine⟨q, ?_,ab⟩
  have:Zq1 P t=some false:=by
   rw[j]
   revert h3 h4 h5
   cases(T t).k<;>intros<;>first
    |rfl
    |(rename_i a _ _;exact absurd rfl (a _))
    |(rename_i a _;exact absurd rfl (a _ _))
    |(rename_i a;exact absurd rfl a)
  simp only[Zdd,this]
  exact aa
theorem ZpF (hT:TysOK P T) (hh:RH φ hp (fun a=>H[a]?)) {t:TypeId} {x:SV} {a:PV} {k:SV→Prop} (h:Zmm T t hp x k) (hx:RV φ x a):ValOK φ k (ZbF P H t a):=by
 unfold Zmm at h
 split at h
 ·split at h
  ·rename_i j
   obtain⟨y,hy,h⟩:=h
   obtain⟨a',es,m',rfl,_,ha,C,_⟩:=hh.ptr j hx
   obtain⟨c,hc,aa⟩:=C.get hy
   split at h
   ·rename_i V I
    obtain⟨q,J,R⟩:=Zfr hT I (Zf0 (φ:=φ) aa)
    simp only[ZbF,show H[a']? =_ from ha,hc,Xab,J]
    exact .mk R h
   ·cases h
  ·rename_i j
   obtain⟨rfl,h⟩:=h
   obtain⟨a',ab,m',rfl,_,ha,U,_⟩:=hh.ptrC j hx
   split at h
   ·rename_i V I
    obtain⟨q,J,R⟩:=Zfr hT I U
    simp only[ZbF,show H[a']? =_ from ha,List.getElem?_cons_zero,Xab,J]
    exact .mk R h
   ·cases h
  ·rename_i j
   obtain⟨W,hW,h⟩:=h
   obtain⟨a',es,m',rfl,_,ha,C,_⟩:=hh.ptrM j hx
   obtain⟨c,hc,y,rfl,hy⟩:=C.get hW
   split at h
   ·rename_i V I
    obtain⟨q,J,R⟩:=Zfr hT I (show RL φ [W] [y]by simp only[RL];exact⟨_,_,rfl,hy,rfl⟩)
    simp only[ZbF,show H[a']? =_ from ha,hc,Xab,J]
    exact .mk R h
   ·cases h
  ·cases h
 ·split at h
  ·rename_i V I
   simp only[RV]at hx
   obtain⟨cs,rfl,U⟩:=hx
   obtain⟨q,J,R⟩:=Zfr hT I (Zf0 (φ:=φ) U)
   simp only[ZbF,J]
   exact .mk R h
  ·cases h
 ·cases h
theorem ZzV (hh:RH φ hp (fun a=>H[a]?)) {t e:TypeId} {z:Nat} (hu:P.underlying t=some (.slice e)) (hz:Za1 P e=some z) {x:SV} {a:PV} {kk:IntKind} {j:Int} {k:SV→Prop} (h:ixT z hp x j k) (hx:RV φ x a):ValOK φ k (Zav P H t a (.int kk j)):=by
 unfold ixT at h
 split at h
 ·split at h
  ·rename_i hw
   have hw:=Xam hw
   obtain⟨y,J,hy,h⟩:=h
   rcases ZhN hx with⟨rfl,rfl⟩|⟨es,rfl,R⟩
   ·simp at hy
   ·obtain⟨c,hc,U⟩:=R.get hy
    have ab:=(Xae.1 hc).1
    simp only[Zav,hu,hz,Xab]
    rw[if_pos ⟨J,by omega⟩,hc]
    simp only[Xab]
    rw[if_pos (by rw[U.len];exact hw)]
    refine .mk ?_ h
    simp only[RV]
    exact⟨c,rfl,U⟩
  ·cases h
 ·split at h
  ·rename_i C
   split at h
   ·rename_i hw
    have hw:=Xam hw
    obtain⟨⟨J,h1⟩,h⟩:=h
    rcases hh.ref C hx with⟨I,es,m',rfl,hp',ha,R,_⟩|⟨rfl,rfl,rfl,rfl,_,_⟩
    ·simp only[Zav,hu,hz,Xab]
     rw[if_pos ⟨J,h1⟩]
     simp only[show H[I]? =_ from ha]
     rw[if_pos hw]
     refine .mk ?_ h
     simp only[RV]
     exact⟨I,hp',rfl⟩
    ·omega
   ·cases h
  ·rename_i C
   split at h
   ·rename_i hw
    have hw:=Xam hw
    obtain⟨⟨J,h1⟩,h⟩:=h
    obtain⟨I,ad,m',rfl,hp',ha,aa,_⟩:=hh.refC C hx
    simp only[Zav,hu,hz,Xab]
    rw[if_pos ⟨J,h1⟩]
    simp only[show H[I]? =_ from ha]
    rw[if_pos (by rw[←aa.len];exact hw)]
    refine .mk ?_ h
    simp only[RV]
    exact⟨I,hp',rfl⟩
   ·cases h
  ·rename_i C
   split at h
   ·rename_i hw
    have hw:=Xam hw
    obtain⟨⟨J,h1⟩,h⟩:=h
    rcases hh.refM C hx with⟨I,es,m',rfl,hp',ha,R,_⟩|⟨rfl,rfl,rfl,rfl,_,_⟩
    ·simp only[Zav,hu,hz,Xab]
     rw[if_pos ⟨J,h1⟩]
     simp only[show H[I]? =_ from ha]
     rw[if_pos hw]
     refine .mk ?_ h
     simp only[RV]
     exact⟨I,hp',rfl⟩
    ·omega
   ·cases h
  ·cases h
 ·cases h
theorem ZlC (J:TysOK P T) (hh:RH φ hp (fun a=>H[a]?)) {t:TypeId} {x U:SV} {a b:PV} {k:SV→Prop} (h:Zfb T t hp x U k) (C:RV φ x a) (hi:RV φ U b):ValOK φ k (Zav P H t a b):=by
 unfold Zfb at h
 split at h
 ·rw[ZbX hi]
  split at h
  ·rename_i I
   have j:=(J.get I (by simp)).k
   rw[I]at j
   split at h
   ·cases h
   ·rename_i he
    exact ZzV hh j (J.get rfl (fun e=>he e)).sz h C
  ·rename_i I
   have j:=(J.get I (by simp)).k
   rw[I]at j
   split at h
   ·cases h
   ·rename_i he
    have hz:=(J.get rfl (fun e=>he e)).sz
    split at h
    ·simp only[RV]at C
     obtain⟨a',h2,rfl⟩:=C
     simp only[Zav,show P.underlying t=_ from j,hz,Xab]
     rw[if_pos h.1]
     refine .mk ?_ h.2
     simp only[RV]
     exact⟨a',h2,rfl⟩
    ·simp only[RV]at C
     obtain⟨cs,rfl,R⟩:=C
     simp only[Zav,show P.underlying t=_ from j,hz,Xab]
     rw[if_pos h.1]
     refine .mk ?_ h.2
     simp only[RV]
     exact⟨cs,rfl,R⟩
    ·cases h
  ·cases h
 ·cases h
theorem Zry (I:TysOK P T) {t:TypeId} {x ix:SV} {a b:PV} {k:SV→Prop} (h:ZtI T t x ix k) (J:RV φ x a) (hi:RV φ ix b):ValOK φ k (ZgL P t a b):=by
 unfold ZtI at h
 split at h
 ·rw[ZbX hi]
  split at h
  ·rename_i j
   have C:=(I.get j (by simp)).k
   rw[j]at C
   obtain⟨c,R,hc,h⟩:=h
   rw[ZeG J]
   simp only[ZgL,show P.underlying t=_ from C,Zjl,hc,Xak]
   rw[if_pos R]
   exact .mk (vi _ _) h
  ·rename_i j
   have C:=(I.get j (by simp)).k
   rw[j]at C
   obtain⟨R,h⟩:=h
   split at h
   ·cases h
   ·rename_i hp' he
    have hz:=(I.get rfl (fun e=>he e)).sz
    simp only[RV]at J
    obtain⟨aa,rfl,U⟩:=J
    obtain⟨q,h2,h3⟩:=Zfr I hp' U
    simp only[ZgL,show P.underlying t=_ from C,hz,Xab]
    rw[if_pos R,h2]
    exact .mk h3 h
   ·cases h
  ·cases h
 ·cases h
theorem Zg8 (R:TysOK P T) {s:TypeId} {C:List (Nat×TypeId×Nat)} (I:(T s).k= .struct C) {f off:Nat} {ty:TypeId} {n:Nat} (j:nth C f=some (off,ty,n)):fieldAt P s f=some (off,ty)∧Za1 P ty=some n:=by
 have J:=(R.get I (by simp)).k
 rw[I]at J
 obtain⟨a,hu,hm,U⟩:=J
 rw[Za5]at j
 have hx:=U _ (XaI j)
 refine⟨?_,hx⟩
 have:(a.toList.map fun f=>(f.offset,f.type))[f]? =some (off,ty):=by
  rw[←hm,Xa2,j];rfl
 simp only[Xa2,Array.getElem?_toList]at this
 simp only[fieldAt,hu]
 exact this
theorem Zk4 (R:TysOK P T) {s:TypeId} {x:SV} {a:PV} {f:Nat} {k:SV→Prop} (h:Zg9 T s x f k) (j:RV φ x a):ValOK φ k (Zcx P s a f):=by
 unfold Zg9 at h
 split at h
 ·rename_i U
  split at h
  ·rename_i hf
   obtain⟨I,J⟩:=Zg8 R U hf
   split at h
   ·simp only[RV]at j
    obtain⟨a',h3,rfl⟩:=j
    simp only[Zcx,I,Xab,J]
    refine .mk ?_ h
    simp only[RV]
    exact⟨a',h3,rfl⟩
   ·simp only[RV]at j
    obtain⟨cs,rfl,C⟩:=j
    simp only[Zcx,I,Xab,J]
    refine .mk ?_ h
    simp only[RV]
    exact⟨cs,rfl,C⟩
   ·cases h
  ·cases h
 ·cases h
theorem Zsp (C:TysOK P T) {s:TypeId} {x:SV} {a:PV} {f:Nat} {k:SV→Prop} (h:Zr7 T s x f k) (I:RV φ x a):ValOK φ k (Zik P s a f):=by
 unfold Zr7 at h
 split at h
 ·rename_i J
  split at h
  ·rename_i R
   obtain⟨U,h2⟩:=Zg8 C J R
   split at h
   ·rename_i hp'
    simp only[RV]at I
    obtain⟨aa,rfl,j⟩:=I
    obtain⟨q,h3,h4⟩:=Zfr C hp' j
    simp only[Zik,U,Xab,h3]
    exact .mk h4 h
   ·cases h
  ·cases h
 ·cases h
theorem ZwF (J:TysOK P T) {t:TypeId} {x:SV} {a:PV} {k:SV→Prop} (h:ZAZ T t x k) (I:RV φ x a):ValOK φ k (Zd5 P H t a):=by
 unfold ZAZ at h
 split at h
 ·rename_i C
  have j:=(J.get C (by simp)).k
  rw[C]at j
  rw[ZeG I]
  simp only[Zd5,show P.underlying t=_ from j,ZnB]
  exact .mk (vi _ _) h
 ·rename_i C
  have j:=(J.get C (by simp)).k
  rw[C]at j
  rcases ZhN I with⟨rfl,rfl⟩|⟨es,rfl,R⟩
  ·simp only[Zd5,show P.underlying t=_ from j]
   exact .mk (vi _ _) h
  ·simp only[Zd5,show P.underlying t=_ from j,←R.len]
   exact .mk (vi _ _) h
 ·rename_i C
  have j:=(J.get C (by simp)).k
  rw[C]at j
  simp only[RV]at I;subst I
  simp only[Zd5,show P.underlying t=_ from j]
  exact .mk (vi _ _) h
 ·rename_i C
  have j:=(J.get C (by simp)).k
  rw[C]at j
  simp only[RV]at I
  rcases I with⟨U,_,rfl⟩|⟨_,rfl,_,rfl,_⟩
  ·simp only[Zd5,show P.underlying t=_ from j]
   exact .mk (vi _ _) h
  ·simp only[Zd5,show P.underlying t=_ from j]
   exact .mk (vi _ _) h
 ·rename_i C
  have j:=(J.get C (by simp)).k
  rw[C]at j
  simp only[Zd5,show P.underlying t=_ from j]
  exact .mk (vi _ _) h
 ·cases h
theorem Zlj (C:Bool): ∀ {l:List SV} {x:SV} {a:PV} {I:List PV} {k:SV→Prop},Zte C l x k→RV φ x a→RL φ l I→ValOK φ k (ZhZ (match C with|true=>max2|false=>min2) I a)
 | [],x,a,I,k,h,J,j=>by
  simp only[RL]at j;subst j
  cases C<;>exact .mk J h
 |y::l,x,a,I,k,h,J,j=>by
  simp only[RL]at j
  obtain⟨q,r,rfl,h2,U⟩:=j
  unfold Zte mmT at h
  split at h
  ·split at h
   ·rename_i R
    have R:=Zfy R
    subst R
    rw[ZbX J,ZbX h2]
    cases C with
    |true=>
     simp only[ZhZ,max2,if_true,Xab]
     exact Zlj true h (vi _ _) U
    |false=>
     simp only[ZhZ,min2,if_true,Xab]
     exact Zlj false h (vi _ _) U
   ·cases h
  ·cases h
end
open Go.Am
theorem Zhn {q:PV} (h:ZcX q=true) (n:Nat) (H:List Mem):exp (n+1) H q=some q:=by
 cases q<;>simp only[ZcX]at h<;>first
  |rfl
  |(cases h;done)
theorem Zg1 {q:PV} (h:ZcX q=true) (n:Nat) (H:List Mem):rch n H q=[]:=by
 cases n with
 |zero=>rfl
 |succ n=>
  cases q<;>simp only[ZcX]at h<;>first
   |rfl
   |(cases h;done)
theorem ZkT (n:Nat) (H:List Mem) (a i l m:Nat):exp (n+1) H (.ref a i l m)=(match H[a]? with|some (.row es _ _)=>if i+l≤es.length then(ZaV (ZaV (exp n H)) ((es.drop i).take l)).map .lst else none|_=>none):=rfl
theorem Zpj (n:Nat) (H:List Mem) (a i r:Nat):exp (n+1) H (.ptr a i r)=(match H[a]? with|some (.row es _ _)=>(es[i]?).bind fun c=>(ZaV (exp n H) c).map fun q=> .box q r|_=>none):=rfl
theorem Zr6 (n:Nat) (H:List Mem) (f:FuncId) (a c:List PV):exp (n+1) H (.func f a c)=(ZaV (exp n H) a).bind fun j=>(ZaV (exp n H) c).map fun C=> .func f j C:=rfl
theorem Zut (n:Nat) (H:List Mem) (a:List PV):exp (n+1) H (.agg a)=(ZaV (exp n H) a).map .agg:=rfl
theorem Zvt (n:Nat) (H:List Mem) (a:List PV):exp (n+1) H (.tup a)=(ZaV (exp n H) a).map .tup:=rfl
theorem Zk0 (n:Nat) (H:List Mem) (a i l m:Nat):rch (n+1) H (.ref a i l m)=(match H[a]? with|some (.row es _ _)=>a::((es.drop i).take l).flatMap fun c=>c.flatMap (rch n H)|_=> []):=rfl
theorem Zpy (n:Nat) (H:List Mem) (a i r:Nat):rch (n+1) H (.ptr a i r)=(match H[a]? with|some (.row es _ _)=>a::((es[i]?).getD []).flatMap (rch n H)|_=> []):=rfl
theorem ZsT (n:Nat) (H:List Mem) (f:FuncId) (a c:List PV):rch (n+1) H (.func f a c)=a.flatMap (rch n H)++c.flatMap (rch n H):=rfl
theorem ZuN (n:Nat) (H:List Mem) (a:List PV):rch (n+1) H (.agg a)=a.flatMap (rch n H):=rfl
theorem ZvH (n:Nat) (H:List Mem) (a:List PV):rch (n+1) H (.tup a)=a.flatMap (rch n H):=rfl
theorem ZlA {α:Type} {f:α→Option α}: ∀ {l:List α},(∀x∈l,f x=some x)→ZaV f l=some l
 | [],_=>rfl
 |x::l,h=>by
  rw[Za7,h x Xah,ZlA fun y j=>h y (Xai _ j)];rfl
theorem RRs.plain {t:CT} {l:List t.D} {es:List (List PV)} (h:All2 (RR t) l es): ∀c∈es,∀q∈c,ZcX q=true:=by
 intro c j q C
 obtain⟨x,_,I⟩:=h.mem j
 exact I.plain q C
theorem ZrR {α:Type} {l:List α} {i n:Nat} {x:α} (h:x∈(l.drop i).take n):x∈l:=Xbl (XaH h)
section
variable {φ : Ph} {hp : List SM} {H : List Mem}
def Reach (φ:Ph) (hp:List SM) (ids as:List Nat):Prop:= ∀a∈as,∃id∈ids,φ[id]? =some (some a)∧ ∃sm,hp[id]? =some sm∧live sm=true
theorem Reach.nil (ids:List Nat):Reach φ hp ids []:=fun _ h=>by simp at h
theorem Reach.app {i j a b:List Nat} (h:Reach φ hp i a) (J:Reach φ hp j b):Reach φ hp (i++j) (a++b):=by
 intro x hx
 rcases XaA.1 hx with hx|hx
 ·obtain⟨id,C,I⟩:=h x hx
  exact⟨id,Xbf _ C,I⟩
 ·obtain⟨id,C,I⟩:=J x hx
  exact⟨id,Xbi _ C,I⟩
def Zyn (φ:Ph) (hp:List SM) (H:List Mem) (n:Nat) (V:SV) (q:PV) (k:SV→Prop):Prop:= ∃j V',exp n H q=some j∧RV [] V' j∧k V'∧Reach φ hp (Zh7 hp n V) (rch n H q)
theorem Zc6 {n:Nat} {f:SV→(SV→Prop)→Prop} (R: ∀V q k,f V k→RV φ V q→Zyn φ hp H n V q k): ∀ {l:List SV} {C:List PV} {k:List SV→Prop},ZgF f l k→RL φ l C→ ∃j J,ZaV (exp n H) C=some j∧RL [] J j∧k J∧Reach φ hp (l.flatMap (Zh7 hp n)) (C.flatMap (rch n H))
 | [],C,k,h,I=>by
  simp only[RL]at I;subst I
  exact⟨[],[],rfl,by simp only[RL],h,Reach.nil _⟩
 |v::r,C,k,h,I=>by
  simp only[RL]at I
  obtain⟨q,qr,rfl,U,h3⟩:=I
  obtain⟨q',V',e1,e2,e3,e4⟩:=R v q _ h U
  obtain⟨j,J,f1,f2,f3,f4⟩:=Zc6 R e3 h3
  refine⟨q'::j,V'::J, ?_, ?_,f3, ?_⟩
  ·rw[Za7,e1,f1];rfl
  ·simp only[RL];exact⟨_,_,rfl,e2,f2⟩
  ·simp only[Xbu];exact e4.app f4
theorem Zt1: ∀ {j:List SV} {es:List (List PV)},All2 (fun V c=> ∃q,c=[q]∧RV φ V q) j es→ ∃C:List PV,es=C.map (fun q=> [q])∧RL φ j C
 | [],[],_=>⟨[],rfl,by simp only[RL]⟩
 |V::j,c::es,h=>by
  obtain⟨⟨q,rfl,I⟩,J⟩:=h
  obtain⟨C,rfl,R⟩:=Zt1 J
  exact⟨q::C,rfl,by simp only[RL];exact⟨_,_,rfl,I,R⟩⟩
theorem Zjb {f:PV→Option PV}: ∀ {C j:List PV},ZaV f C=some j→ZaV (ZaV f) (C.map fun q=> [q])=some (j.map fun q=> [q])
 | [],j,h=>by cases h;rfl
 |q::C,j,h=>by
  rw[Za7]at h
  cases I:f q with
  |none=>rw[I]at h;cases h
  |some x=>
   cases J:ZaV f C with
   |none=>rw[I,J]at h;cases h
   |some r=>
    rw[I,J]at h
    cases h
    rw[Xbb,Za7,Zjb J]
    have:ZaV f [q]=some [x]:=by rw[Za7,I];rfl
    rw[this]
    rfl
theorem ZrF {ct:CT}: ∀ {l:List SV} {xs:List ct.D} {C:List PV},ZzM ct l=some xs→RL [] l C→All2 (RR ct) xs (C.map fun q=> [q])
 | [],xs,C,h,j=>by
  cases h
  simp only[RL]at j
  subst j
  trivial
 |V::l,xs,C,h,j=>by
  simp only[RL]at j
  obtain⟨q,r,rfl,J,R⟩:=j
  simp only[ZzM]at h
  split at h
  ·rename_i x U
   split at h
   ·rename_i ys I
    cases h
    exact⟨Zdh (φ:=[]) U (by simp only[RL];exact⟨_,_,rfl,J,rfl⟩),ZrF I R⟩
   ·cases h
  ·cases h
theorem ZkY (hh:RH φ hp (fun a=>H[a]?)): ∀ (n:Nat) (V:SV) (q:PV) (k:SV→Prop),Zjq hp n V k→RV φ V q→Zyn φ hp H n V q k
 |0,_,_,_,h,_=>h.elim
 |1,_,_,_,h,_=>h.elim
 |n+2,V,q,k,h,C=>by
  have ih:=ZkY hh (n+1)
  have self:ZcX q=true→k V→RV [] V q→Zyn φ hp H (n+2) V q k:=fun h1 h2 h3=>⟨q,V,Zhn h1 _ _,h3,h2,by rw[Zg1 h1];exact Reach.nil _⟩
  cases V with
  |v t x=>
   have hq:ZcX q=true:=by simp only[RV]at C;exact C.plain q (by simp)
   exact self hq h (by simpa only[RV]using C)
  |nilp=>
   have ad:=C
   simp only[RV]at ad;subst ad
   exact⟨.nilp, .nilp,rfl,by simp only[RV],h,Reach.nil _⟩
  |nils=>simp only[RV]at C;subst C;exact self rfl h (by simp only[RV])
  |nilf=>
   simp only[RV]at C;subst C
   exact⟨.nilf, .nilf,rfl,by simp only[RV],h,Reach.nil _⟩
  |nili=>
   simp only[RV]at C;subst C
   exact⟨.nili, .nili,rfl,by simp only[RV],h,Reach.nil _⟩
  |nilmp=>
   simp only[RV]at C;subst C
   exact⟨.nilm, .nilmp,rfl,by simp only[RV],h,Reach.nil _⟩
  |mp id=>simp only[Zjq]at h
  |box t x r=>
   simp only[RV]at C
   obtain⟨cs,rfl,aa⟩:=C
   exact⟨.box cs r, .box t x r,rfl,by simp only[RV];exact⟨cs,rfl,aa⟩,h,Reach.nil _⟩
  |ref id i m mm=>
   simp only[Zjq]at h
   split at h
   ·rename_i t l b j
    obtain⟨hlen,hk⟩:=h
    rcases hh.ref j C with⟨a,es,m',rfl,hp',I,R,_⟩|⟨rfl,rfl,rfl,rfl,_,_⟩
    ·have hl:=R.len
     have ab:=RRs.plain R
     have I:H[a]? =_:=I
     refine⟨.lst ((es.drop i).take m),_, ?_, ?_,hk, ?_⟩
     ·rw[ZkT]
      simp only[I]
      rw[if_pos (by omega),ZlA (fun c hc=>ZlA fun q hq=>Zhn (ab c (ZrR hc) q hq) _ _)];rfl
     ·simp only[RV,RR]
      exact .inr ⟨_,rfl,R.sub i m⟩
     ·rw[Zk0]
      simp only[I,Zh7,j]
      have:(((es.drop i).take m).flatMap fun c=>c.flatMap (rch (n+1) H))=[]:=by
       rw[List.flatMap_eq_nil_iff]
       intro c hc
       rw[List.flatMap_eq_nil_iff]
       intro q hq
       exact Zg1 (ab c (ZrR hc) q hq) _ _
      rw[this]
      intro x hx
      rw[Xat.1 hx]
      rw[Za5]at j
      exact⟨id,Xat.2 rfl,hp',_,j,rfl⟩
    ·refine⟨.nils,_,rfl, ?_,hk,Reach.nil _⟩
     show RR _ _ _
     exact .inl ⟨rfl,rfl⟩
   ·rename_i ct ai b j
    obtain⟨hlen,hk⟩:=h
    rcases hh.refM j C with⟨a,es,m',rfl,hp',I,R,_⟩|⟨rfl,rfl,rfl,rfl,_,_⟩
    ·have hl:=R.len
     have I:H[a]? =_:=I
     have ae:All2 (fun V c=> ∃q,c=[q]∧RV φ V q) (sub ai i m) ((es.drop i).take m):=R.sub i m
     obtain⟨qs,af,aj⟩:=Zt1 ae
     obtain⟨U,l',e1,e2,e3,e4⟩:=Zc6 ih hk aj
     split at e3
     ·rename_i xs ak
      refine⟨.lst (U.map fun q=> [q]),_, ?_, ?_,e3, ?_⟩
      ·rw[ZkT]
       simp only[I]
       rw[if_pos (by omega),af,Zjb e1];rfl
      ·simp only[RV,RR]
       exact .inr ⟨_,rfl,ZrF ak e2⟩
      ·rw[Zk0]
       simp only[I,Zh7,j,af]
       have al:((qs.map fun q=> [q]).flatMap fun c=>c.flatMap (rch (n+1) H))=qs.flatMap (rch (n+1) H):=by
        rw[List.flatMap_map]
        simp
       rw[al]
       have J:Reach φ hp [id] [a]:=by
        intro x hx
        rw[Xat.1 hx]
        rw[Za5]at j
        exact⟨id,Xat.2 rfl,hp',_,j,rfl⟩
       exact J.app e4
     ·cases e3
    ·simp only[sub,List.drop_nil,List.take_nil,ZgF,ZzM]at hk
     refine⟨.nils,_,rfl, ?_,hk,Reach.nil _⟩
     show RR _ _ _
     exact .inl ⟨rfl,rfl⟩
   ·rename_i cs b j
    obtain⟨⟨rfl,rfl⟩,hk⟩:=h
    obtain⟨a,ag,m',rfl,hp',I,aa,_⟩:=hh.refC j C
    have I:H[a]? =_:=I
    obtain⟨U,l',e1,e2,e3,e4⟩:=Zc6 ih hk aa
    obtain⟨ct,x,hx,hk⟩:=e3
    refine⟨.lst [U],_, ?_, ?_,hk, ?_⟩
    ·rw[ZkT]
     simp only[I]
     rw[if_pos (by simp)]
     have:ZaV (ZaV (exp (n+1) H)) [ag]=some [U]:=by rw[Za7,e1];rfl
     simp only[XaB,List.take_succ_cons,Xa5,this]
     rfl
    ·simp only[RV,RR]
     exact .inr ⟨_,rfl,Zdh (φ:=[]) hx e2,trivial⟩
    ·rw[Zk0]
     simp only[I,Zh7,j,XaB,List.take_succ_cons,Xa5,Xbu,List.flatMap_nil,XaF]
     have J:Reach φ hp [id] [a]:=by
      intro x hx
      rw[Xat.1 hx]
      rw[Za5]at j
      exact⟨id,Xat.2 rfl,hp',_,j,rfl⟩
     exact J.app e4
   ·cases h
  |ptr id i r=>
   simp only[Zjq]at h
   split at h
   ·rename_i t l b j
    obtain⟨y,hy,hk⟩:=h
    obtain⟨a,es,m',rfl,hp',I,R,_⟩:=hh.ptr j C
    have I:H[a]? =_:=I
    have ab:=RRs.plain R
    obtain⟨c,hc,an⟩:=R.get hy
    have ah:=XaI hc
    refine⟨.box c r,_, ?_, ?_,hk, ?_⟩
    ·rw[Zpj]
     simp only[I,hc,Xab]
     rw[ZlA fun q hq=>Zhn (ab c ah q hq) _ _];rfl
    ·simp only[RV]
     exact⟨c,rfl,an⟩
    ·rw[Zpy]
     simp only[I,hc,Zh7,j,Xby]
     have:(c.flatMap (rch (n+1) H))=[]:=by
      rw[List.flatMap_eq_nil_iff]
      intro q hq
      exact Zg1 (ab c ah q hq) _ _
     rw[this]
     intro x hx
     rw[Xat.1 hx]
     rw[Za5]at j
     exact⟨id,Xat.2 rfl,hp',_,j,rfl⟩
   ·rename_i cs b j
    obtain⟨rfl,hk⟩:=h
    obtain⟨a,ag,m',rfl,hp',I,aa,_⟩:=hh.ptrC j C
    have I:H[a]? =_:=I
    obtain⟨U,l',e1,e2,e3,e4⟩:=Zc6 ih hk aa
    obtain⟨ct,x,hx,hk⟩:=e3
    refine⟨.box U r,_, ?_, ?_,hk, ?_⟩
    ·rw[Zpj]
     simp only[I,List.getElem?_cons_zero,Xab,e1]
     rfl
    ·simp only[RV]
     exact⟨U,rfl,Zdh (φ:=[]) hx e2⟩
    ·rw[Zpy]
     simp only[I,Zh7,j,List.getElem?_cons_zero,Xby]
     have J:Reach φ hp [id] [a]:=by
      intro x hx
      rw[Xat.1 hx]
      rw[Za5]at j
      exact⟨id,Xat.2 rfl,hp',_,j,rfl⟩
     exact J.app e4
   ·cases h
  |func f a c=>
   simp only[RV]at C
   obtain⟨a',c',rfl,h1,h2⟩:=C
   obtain⟨qs,l,e1,e2,e3,e4⟩:=Zc6 ih h h1
   obtain⟨U,l',f1,f2,f3,f4⟩:=Zc6 ih e3 h2
   refine⟨.func f qs U, .func f l l', ?_, ?_,f3, ?_⟩
   ·rw[Zr6,e1,Xab,f1];rfl
   ·simp only[RV];exact⟨_,_,rfl,e2,f2⟩
   ·rw[ZsT];simp only[Zh7];exact e4.app f4
  |agg cs=>
   simp only[RV]at C
   obtain⟨a',rfl,h1⟩:=C
   obtain⟨qs,l,e1,e2,e3,e4⟩:=Zc6 ih h h1
   refine⟨.agg qs, .agg l, ?_, ?_,e3, ?_⟩
   ·rw[Zut,e1];rfl
   ·simp only[RV];exact⟨_,rfl,e2⟩
   ·rw[ZuN];simp only[Zh7];exact e4
  |tup cs=>
   simp only[RV]at C
   obtain⟨a',rfl,h1⟩:=C
   obtain⟨qs,l,e1,e2,e3,e4⟩:=Zc6 ih h h1
   refine⟨.tup qs, .tup l, ?_, ?_,e3, ?_⟩
   ·rw[Zvt,e1];rfl
   ·simp only[RV];exact⟨_,rfl,e2⟩
   ·rw[ZvH];simp only[Zh7];exact e4
theorem Zxv (J:RH φ hp (fun a=>H[a]?)) {l:List SV} {C:List PV} {k:List SV→Prop} (h:ZAe hp l k) (R:RL φ l C): ∃j I,ZaV (exp ZaL H) C=some j∧RL [] I j∧k I∧Reach φ hp (Zsm hp l) (C.flatMap (rch ZaL H)):=Zc6 (ZkY J 40) h R
theorem RM.mono {φ φ':Ph} {L L':Nat→Option Mem} {o:Option Nat} {sm:SM} (hl:Le φ φ') (J: ∀a,o=some a→live sm=true→L' a=L a) (h:RM φ L o sm):RM φ' L' o sm:=by
 cases sm with
 |row t l m=>
  simp only[RM]at h⊢
  cases o with
  |none=>exact h
  |some a=>
   obtain⟨es,I,j,C⟩:=h
   exact⟨es,I,by rw[J a rfl rfl];exact j,C⟩
 |cell cs m=>
  simp only[RM]at h⊢
  obtain⟨a,R,I,rfl,j,C,U⟩:=h
  exact⟨a,R,I,rfl,by rw[J a rfl rfl];exact j,RL.mono hl _ _ C,U⟩
 |many ct aa m=>
  simp only[RM]at h⊢
  cases o with
  |none=>exact h
  |some a=>
   obtain⟨es,I,j,C,U⟩:=h
   exact⟨es,I,by rw[J a rfl rfl];exact j,C.imp (fun _ _ ⟨q,hq,hr⟩=>⟨q,hq,RV.mono hl _ _ hr⟩),U⟩
 |set ks=>
  simp only[RM]at h⊢
  obtain⟨a,es,rfl,j,C⟩:=h
  exact⟨a,es,rfl,by rw[J a rfl rfl];exact j,C⟩
 |dead=>trivial
theorem RM.ex {L:Nat→Option Mem} {a:Nat} {sm:SM} (h:RM φ L (some a) sm) (J:live sm=true): ∃m,L a=some m:=by
 cases sm with
 |row t l m=>
  simp only[RM]at h
  obtain⟨es,I,j,_⟩:=h
  exact⟨_,j⟩
 |cell cs m=>
  simp only[RM]at h
  obtain⟨a,R,I,C,j,_⟩:=h
  cases C
  exact⟨_,j⟩
 |many ct U m=>
  simp only[RM]at h
  obtain⟨es,I,j,_⟩:=h
  exact⟨_,j⟩
 |set ks=>
  simp only[RM]at h
  obtain⟨a,es,C,j,_⟩:=h
  cases C
  exact⟨_,j⟩
 |dead=>cases J
theorem RH.lt (C:RH φ hp (fun a=>H[a]?)) {id a:Nat} {sm:SM} (h:hp[id]? =some sm) (I:live sm=true) (j:φ[id]? =some (some a)):a<H.length:=by
 obtain⟨m,hm⟩:=(C.row _ _ _ h j).ex I
 exact(Xae.1 hm).1
theorem RH.push (hh:RH φ hp (fun a=>H[a]?)) {sm:SM} {m:Mem} (h:RM (φ++ [some H.length]) (fun a=>(H++ [m])[a]?) (some H.length) sm):RH (φ++ [some H.length]) (hp++ [sm]) (fun a=>(H++ [m])[a]?):=by
 have hlen:=hh.len
 have old: ∀ {id:Nat} {x:SM},(hp++ [sm])[id]? =some x→(id<hp.length∧hp[id]? =some x)∨(id=hp.length∧x=sm):=by
  intro id x J
  by_cases hi:id<hp.length
  ·rw[Xar hi]at J;exact .inl ⟨hi,J⟩
  ·rw[XaE (by omega)]at J
   obtain⟨hj,ag⟩:=Xae.1 J
   simp only[List.length_singleton]at hj
   have:id=hp.length:=by omega
   subst this
   simp at J
   exact .inr ⟨rfl,J.symm⟩
 have j: ∀ {id:Nat},id<hp.length→(φ++ [some H.length])[id]? =φ[id]? :=fun hi=>Xar (by omega)
 have C:(φ++ [some H.length])[hp.length]? =some (some H.length):=by
  rw[XaE (by omega)];simp[hlen]
 refine⟨by simp[hlen], ?_, ?_⟩
 ·intro id x o J ho
  rcases old J with⟨hi,J⟩|⟨rfl,rfl⟩
  ·rw[j hi]at ho
   refine RM.mono (Le.app _ _) (fun a U hl=> ?_) (hh.row _ _ _ J ho)
   subst U
   exact Xar (hh.lt J hl ho)
  ·rw[C]at ho;cases ho
   exact h
 ·intro id ah x x' a ab J ad hl ae U R
  rcases old J with⟨hi,h1⟩|⟨h1,h2⟩
  ·rw[j hi]at U
   rcases old ad with⟨aa,I⟩|⟨I,af⟩
   ·rw[j aa]at R
    exact hh.inj _ _ _ _ _ ab h1 I hl ae U R
   ·rw[I,C]at R;cases R
    have:=hh.lt h1 hl U
    omega
  ·rw[h1,C]at U;cases U
   rcases old ad with⟨aa,I⟩|⟨I,af⟩
   ·rw[j aa]at R
    have:=hh.lt I ae R
    omega
   ·exact ab (h1.trans I.symm)
theorem RH.set (hh:RH φ hp (fun a=>H[a]?)) {id a:Nat} {aa sm:SM} {m:Mem} (h0:hp[id]? =some aa) (R:live aa=true) (ab:φ[id]? =some (some a)) (h:RM φ (fun b=>(H.set a m)[b]?) (some a) sm):RH φ (hp.set id sm) (fun b=>(H.set a m)[b]?):=by
 have hid:=(Xae.1 h0).1
 have at_: ∀ {j:Nat} {x:SM},(hp.set id sm)[j]? =some x→(j=id∧x=sm)∨(j≠id∧hp[j]? =some x):=by
  intro j x I
  by_cases U:j=id
  ·subst U
   rw[XaK hid]at I
   exact .inl ⟨rfl,(XbF I).symm⟩
  ·rw[XaD (fun e=>U e.symm)]at I
   exact .inr ⟨U,I⟩
 refine⟨by simp[hh.len], ?_, ?_⟩
 ·intro j x o I ho
  rcases at_ I with⟨rfl,rfl⟩|⟨U,I⟩
  ·rw[ab]at ho;cases ho
   exact h
  ·refine RM.mono (Le.refl _) (fun b hb hl=> ?_) (hh.row _ _ _ I ho)
   subst hb
   have:a≠b:=fun e=>by subst e;exact hh.inj _ _ _ _ _ U I h0 hl R ho ab
   exact XaD this
 ·intro i j x x' b C I ad hl ae hb J
  rcases at_ I with⟨e1,_⟩|⟨hi,h1⟩
  ·rcases at_ ad with⟨e2,_⟩|⟨U,h2⟩
   ·exact C (e1.trans e2.symm)
   ·rw[e1]at C hb;exact hh.inj _ _ _ _ _ C h0 h2 R ae hb J
  ·rcases at_ ad with⟨e2,_⟩|⟨U,h2⟩
   ·rw[e2]at C J;exact hh.inj _ _ _ _ _ C h1 h0 hl R hb J
   ·exact hh.inj _ _ _ _ _ C h1 h2 hl ae hb J
theorem RH.kill {L:Nat→Option Mem} (I:RH φ hp L) (id:Nat):RH φ (hp.set id .dead) L:=by
 have at_: ∀ {j:Nat} {x:SM},(hp.set id .dead)[j]? =some x→x= .dead∨hp[j]? =some x:=by
  intro j x hx
  by_cases U:j=id
  ·subst U
   rw[List.getElem?_set]at hx
   simp only[if_true]at hx
   split at hx
   ·exact .inl (XbF hx).symm
   ·cases hx
  ·rw[XaD (fun e=>U e.symm)]at hx
   exact .inr hx
 refine⟨by simp[I.len], ?_, ?_⟩
 ·intro j x o hx ho
  rcases at_ hx with rfl|hx
  ·trivial
  ·exact I.row _ _ _ hx ho
 ·intro i j x x' b J hx hx' hl C hb R
  rcases at_ hx with rfl|hx
  ·cases hl
  ·rcases at_ hx' with rfl|hx'
   ·cases C
   ·exact I.inj _ _ _ _ _ J hx hx' hl C hb R
theorem RH.killA (J:RH φ hp (fun a=>H[a]?)) {id a:Nat} {j:SM} {m:Mem} (R:hp[id]? =some j) (C:live j=true) (I:φ[id]? =some (some a)):RH φ (hp.set id .dead) (fun b=>(H.set a m)[b]?):=
 J.set R C I trivial
theorem Zxk (hh:RH φ hp (fun a=>H[a]?)) (id:Nat):RH φ (frz1 hp id) (fun a=>H[a]?):=by
 have go: ∀sm J,hp[id]? =some sm→live sm=true→(∀o,RM φ (fun a=>H[a]?) o sm→RM φ (fun a=>H[a]?) o J)→RH φ (hp.set id J) (fun a=>H[a]?):=by
  intro sm J I ab hm
  have hid:=(Xae.1 I).1
  have at_: ∀ {j:Nat} {x:SM},(hp.set id J)[j]? =some x→(j=id∧x=J)∨(j≠id∧hp[j]? =some x):=by
   intro j x R
   by_cases hj:j=id
   ·subst hj
    rw[XaK hid]at R
    exact .inl ⟨rfl,(XbF R).symm⟩
   ·rw[XaD (fun e=>hj e.symm)]at R
    exact .inr ⟨hj,R⟩
  refine⟨by simp[hh.len], ?_, ?_⟩
  ·intro j x o R ho
   rcases at_ R with⟨rfl,rfl⟩|⟨hj,R⟩
   ·exact hm o (hh.row _ _ _ I ho)
   ·exact hh.row _ _ _ R ho
  ·intro i j x x' b C R ad hl ae hb aa
   rcases at_ R with⟨e1,_⟩|⟨hi,h1⟩
   ·rcases at_ ad with⟨e2,_⟩|⟨hj,h2⟩
    ·exact C (e1.trans e2.symm)
    ·rw[e1]at C hb;exact hh.inj _ _ _ _ _ C I h2 ab ae hb aa
   ·rcases at_ ad with⟨e2,_⟩|⟨hj,h2⟩
    ·rw[e2]at C aa;exact hh.inj _ _ _ _ _ C h1 I hl ab hb aa
    ·exact hh.inj _ _ _ _ _ C h1 h2 hl ae hb aa
 unfold frz1
 rw[Za5]
 split
 ·rename_i t l m I
  refine go _ _ I rfl fun o U=> ?_
  simp only[RM]at U⊢
  cases o with
  |none=>exact U
  |some a=>
   obtain⟨es,m',h1,h2,_⟩:=U
   exact⟨es,m',h1,h2,fun h=>by cases h⟩
 ·rename_i cs m I
  refine go _ _ I rfl fun o U=> ?_
  simp only[RM]at U⊢
  obtain⟨a,af,m',I,h1,h2,_⟩:=U
  exact⟨a,af,m',I,h1,h2,fun h=>by cases h⟩
 ·rename_i ct ag m I
  refine go _ _ I rfl fun o U=> ?_
  simp only[RM]at U⊢
  cases o with
  |none=>exact U
  |some a=>
   obtain⟨es,m',h1,h2,_⟩:=U
   exact⟨es,m',h1,h2,fun h=>by cases h⟩
 ·exact hh
theorem Zog: ∀ (ids:List Nat) {hp:List SM},RH φ hp (fun a=>H[a]?)→RH φ (frzT hp ids) (fun a=>H[a]?)
 | [],_,h=>h
 |i::r,_,h=>Zog r (Zxk h i)
def Zyt:SM→Bool
 | .row _ _ m| .cell _ m| .many _ _ m=>m
 | .set _=>false
 | .dead=>false
theorem Znz (hp:List SM) (id j:Nat) {sm:SM} (h:(frz1 hp id)[j]? =some sm):(∃J,hp[j]? =some J∧live J=live sm)∧(j=id→Zyt sm=false)∧(Zyt sm=true→hp[j]? =some sm):=by
 unfold frz1 at h
 rw[Za5]at h
 split at h
 ·rename_i t l m I
  by_cases C:j=id
  ·subst C
   rw[XaK (Xae.1 I).1]at h
   cases h
   exact⟨⟨_,I,rfl⟩,fun _=>rfl,fun hm=>by cases hm⟩
  ·rw[XaD (fun e=>C e.symm)]at h
   exact⟨⟨_,h,rfl⟩,fun e=>absurd e C,fun _=>h⟩
 ·rename_i cs m I
  by_cases C:j=id
  ·subst C
   rw[XaK (Xae.1 I).1]at h
   cases h
   exact⟨⟨_,I,rfl⟩,fun _=>rfl,fun hm=>by cases hm⟩
  ·rw[XaD (fun e=>C e.symm)]at h
   exact⟨⟨_,h,rfl⟩,fun e=>absurd e C,fun _=>h⟩
 ·rename_i cs R m I
  by_cases C:j=id
  ·subst C
   rw[XaK (Xae.1 I).1]at h
   cases h
   exact⟨⟨_,I,rfl⟩,fun _=>rfl,fun hm=>by cases hm⟩
  ·rw[XaD (fun e=>C e.symm)]at h
   exact⟨⟨_,h,rfl⟩,fun e=>absurd e C,fun _=>h⟩
 ·rename_i U h2 h3
  refine⟨⟨_,h,rfl⟩, ?_,fun _=>h⟩
  intro e
  subst e
  cases sm with
  |row t l m=>exact absurd h (U _ _ _)
  |cell cs m=>exact absurd h (h2 _ _)
  |many ct R m=>exact absurd h (h3 _ _ _)
  |set ks=>rfl
  |dead=>rfl
theorem ZtY: ∀ (ids:List Nat) (hp:List SM) (j:Nat) {sm:SM},(frzT hp ids)[j]? =some sm→(∃C,hp[j]? =some C∧live C=live sm)∧(j∈ids→Zyt sm=false)∧(Zyt sm=true→hp[j]? =some sm)
 | [],hp,j,sm,h=>⟨⟨_,h,rfl⟩,fun h=>by simp at h,fun _=>h⟩
 |i::r,hp,j,sm,h=>by
  obtain⟨⟨s1,U,l1⟩,h2,R⟩:=ZtY r (frz1 hp i) j h
  obtain⟨⟨s0,h4,l0⟩,h5,h6⟩:=Znz hp i j U
  refine⟨⟨s0,h4,l0.trans l1⟩, ?_, ?_⟩
  ·intro hj
   rcases Xav.1 hj with rfl|hj
   ·cases hm:Zyt sm with
    |false=>rfl
    |true=>
     have I:=R hm
     obtain⟨_,J,_⟩:=Znz hp j j I
     rw[J rfl]at hm;cases hm
   ·exact h2 hj
  ·intro hm
   have I:=R hm
   obtain⟨_,_,J⟩:=Znz hp i j I
   exact J hm
theorem ZhR: ∀ (as:List Nat) (H:List Mem) (b:Nat),b ∉ as→(Am.freeze as H)[b]? =H[b]?
 | [],_,_,_=>rfl
 |a::r,H,b,h=>by
  show(Am.freeze r (freeze1 H a))[b]? =_
  rw[ZhR r _ b fun e=>h (Xai _ e)]
  rcases ZaQ H a b with j|⟨rfl,_⟩
  ·exact j
  ·exact absurd Xah h
theorem Zdk: ∀ (as:List Nat) (H:List Mem) (b:Nat) (es:List (List PV)) (z:Nat) (m:Bool),H[b]? =some (.row es z m)→ ∃j,(Am.freeze as H)[b]? =some (.row es z j)
 | [],_,_,_,_,m,h=>⟨m,h⟩
 |a::r,H,b,es,z,m,h=>by
  show ∃j,(Am.freeze r (freeze1 H a))[b]? =_
  rcases ZaQ H a b with I|⟨rfl,es',z',j,C,J⟩
  ·exact Zdk r _ b es z m (I.trans h)
  ·rw[h]at C;cases C
   exact Zdk r _ a es z false J
theorem ZjV: ∀ (as:List Nat) (H:List Mem) (b:Nat) (es:List (PV×PV)),H[b]? =some (.map es)→(Am.freeze as H)[b]? =some (.map es)
 | [],_,_,_,h=>h
 |a::r,H,b,es,h=>by
  show(Am.freeze r (freeze1 H a))[b]? =_
  rcases ZaQ H a b with C|⟨rfl,es',z',I,j,J⟩
  ·exact ZjV r _ b es (C.trans h)
  ·rw[h]at j;cases j
theorem ZgT (hh:RH φ hp (fun a=>H[a]?)) {ids as:List Nat} (hr:Reach φ hp ids as):RH φ (frzT hp ids) (fun a=>(Am.freeze as H)[a]?):=by
 have hf:=Zog ids hh
 refine⟨hf.len, ?_,hf.inj⟩
 intro j sm o hj ho
 obtain⟨⟨ad,h0,hl⟩,h1,h2⟩:=ZtY ids hp j hj
 have hm:=hf.row _ _ _ hj ho
 have keep: ∀a,o=some a→Zyt sm=true→(Am.freeze as H)[a]? =H[a]? :=by
  intro a ha J
  refine ZhR _ _ _ fun ab=> ?_
  obtain⟨id,C,I,ae,R,U⟩:=hr a ab
  subst ha
  by_cases hid:id=j
  ·subst hid
   rw[h1 C]at J;cases J
  ·refine hh.inj _ _ _ _ _ hid R h0 U ?_ I ho
   rw[hl]
   cases sm with
   |dead=>cases J
   |_=>rfl
 cases sm with
 |row t l m=>
  simp only[RM]at hm⊢
  cases o with
  |none=>exact hm
  |some a=>
   obtain⟨es,m',C,I,R⟩:=hm
   cases m with
   |true=>exact⟨es,m',by rw[keep a rfl rfl];exact C,I,R⟩
   |false=>
    obtain⟨m2,U⟩:=Zdk as H a _ _ _ C
    exact⟨es,m2,U,I,fun h=>by cases h⟩
 |cell cs m=>
  simp only[RM]at hm⊢
  obtain⟨a,aa,m',rfl,C,I,R⟩:=hm
  cases m with
  |true=>exact⟨a,aa,m',rfl,by rw[keep a rfl rfl];exact C,I,R⟩
  |false=>
   obtain⟨m2,U⟩:=Zdk as H a _ _ _ C
   exact⟨a,aa,m2,rfl,U,I,fun h=>by cases h⟩
 |many ct af m=>
  simp only[RM]at hm⊢
  cases o with
  |none=>exact hm
  |some a=>
   obtain⟨es,m',C,I,R⟩:=hm
   cases m with
   |true=>exact⟨es,m',by rw[keep a rfl rfl];exact C,I,R⟩
   |false=>
    obtain⟨m2,U⟩:=Zdk as H a _ _ _ C
    exact⟨es,m2,U,I,fun h=>by cases h⟩
 |set ks=>
  simp only[RM]at hm⊢
  obtain⟨a,es,rfl,C,I⟩:=hm
  exact⟨a,es,rfl,ZjV as H a es C,I⟩
 |dead=>trivial
end
open Go.Am
section
variable {P : Program} {h : Hints} {T : TypeId → TI} {φ : Ph} {hp : List SM} {H : List Mem} {tm : TM} {ρ : Operand → Option PV}
def Zq2 (φ:Ph) (tm:TM) (ρ:Operand→Option PV):Prop:= ∀x V,evS tm x=some V→ ∃q,ρ x=some q∧RV φ V q
theorem Zje (j:Zq2 φ tm ρ): ∀ {l:List Operand} {Vs:List SV},evL tm l=some Vs→ ∃C,ZaV ρ l=some C∧RL φ Vs C
 | [],_,h=>by cases h;exact⟨[],rfl,by simp only[RL]⟩
 |x::l,Vs,h=>by
  simp only[evL]at h
  split at h
  ·rename_i v I
   split at h
   ·rename_i r J
    cases h
    obtain⟨q,R,U⟩:=j _ _ I
    obtain⟨C,h3,h4⟩:=Zje j J
    exact⟨q::C,by rw[Za7,R,h3];rfl,by simp only[RL];exact⟨_,_,rfl,U,h4⟩⟩
   ·cases h
  ·cases h
theorem ZcN {V:SV} {q:PV} (J:ZbH V=true) (C:RV φ V q):RL φ (Zbf V) (cellsOf q)∧ZhS q=some q:=by
 have one:(∀cs,q≠ .agg cs)→Zbf V=[V]→RL φ (Zbf V) (cellsOf q):=by
  intro I R
  rw[R]
  have:cellsOf q=[q]:=by
   cases q<;>first
    |rfl
    |exact absurd rfl (I _)
  rw[this]
  simp only[RL]
  exact⟨_,_,rfl,C,rfl⟩
 cases V with
 |v t x=>
  have hp:ZcX q=true:=by simp only[RV]at C;exact C.plain q (by simp)
  refine⟨one (fun cs e=>by subst e;cases hp) rfl, ?_⟩
  cases q<;>first
   |rfl
   |cases hp
 |nilp=>simp only[RV]at C;subst C;exact⟨one (by simp) rfl,rfl⟩
 |nils=>simp only[RV]at C;subst C;exact⟨one (by simp) rfl,rfl⟩
 |nilf=>simp only[RV]at C;subst C;exact⟨one (by simp) rfl,rfl⟩
 |nili=>simp only[RV]at C;subst C;exact⟨one (by simp) rfl,rfl⟩
 |nilmp=>simp only[RV]at C;subst C;exact⟨one (by simp) rfl,rfl⟩
 |mp id=>simp only[RV]at C;obtain⟨a,_,rfl⟩:=C;exact⟨one (by simp) rfl,rfl⟩
 |ref id i n m=>
  have j:=C
  simp only[RV]at j
  rcases j with⟨a,_,rfl⟩|⟨_,rfl,_⟩<;>exact⟨one (by simp) rfl,rfl⟩
 |ptr id i r=>
  have j:=C
  simp only[RV]at j
  obtain⟨a,_,rfl⟩:=j
  exact⟨one (by simp) rfl,rfl⟩
 |box t x r=>
  have j:=C
  simp only[RV]at j
  obtain⟨a,rfl,_⟩:=j
  exact⟨one (by simp) rfl,rfl⟩
 |func f a c=>
  have j:=C
  simp only[RV]at j
  obtain⟨_,_,rfl,_⟩:=j
  exact⟨one (by simp) rfl,rfl⟩
 |agg cs=>
  simp only[RV]at C
  obtain⟨U,rfl,I⟩:=C
  exact⟨I,rfl⟩
 |tup vs=>cases J
theorem ZhA {V:SV} {q:PV} (C:ZsX V=true) (J:ZbH V=true) (j:RV φ V q):cellsOf q=[q]:=by
 have I:=(ZcN J j).1
 have R:Zbf V=[V]:=by
  cases V<;>first
   |rfl
   |cases C
 rw[R]at I
 obtain⟨U,h1,h2⟩:=RL1 I
 cases q<;>first
  |rfl
  |skip
 ·rename_i cs
  exfalso
  cases V<;>simp only[RV,RR]at j<;>first
   |(cases C;done)
   |(cases j;done)
   |skip
  all_goals first
   |(have:=RR.plain j _ (Xat.2 rfl);cases this;done)
   |(rcases j with⟨a,_,h⟩|⟨_,h,_⟩<;>cases h;done)
   |(obtain⟨a,_,h⟩:=j;cases h;done)
   |(obtain⟨a,h,_⟩:=j;cases h;done)
   |(obtain⟨a,c,h,_⟩:=j;cases h;done)
theorem ZrW (hT:TysOK P T) (hh:RH φ hp (fun a=>H[a]?)) {t:TypeId} {A V:SV} {a x:PV} {k:SV→List SM→Prop} (C:Zio T t hp A V k) (hA:RV φ A a) (hV:RV φ V x):OutOK φ k (ZeE P H t (some a) (some x)):=by
 unfold Zio at C
 split at C
 ·rename_i id i r
  split at C
  ·rename_i hb
   simp only[Xag]at hb
   obtain⟨hn,hl⟩:=hb
   have hl:=Xam hl
   obtain⟨hc,ad⟩:=ZcN hn hV
   split at C
   ·rename_i ct l j
    obtain⟨y,hy,C⟩:=C
    obtain⟨U,es,m',rfl,hp',ha,I,hm⟩:=hh.ptr j hA
    have hm:=hm rfl
    subst hm
    obtain⟨c,ae,ah⟩:=I.get hy
    split at C
    ·cases C
    ·rename_i z hle hd ho
     have hle:=Xal hle
     have J:=(hT.get rfl (fun e=>ho e)).sz
     have hz:=Zdh hd (RL.spl _ (Zf0 (φ:=φ) ah) hc)
     refine⟨.tup [],H.set U (.row (es.set i (splice c r (cellsOf x))) ct.w true),φ, .tup [],_, ?_,Le.refl φ, ?_,by simp only[RV,RL];exact⟨_,rfl,rfl⟩,C⟩
     ·simp only[ZeE,Xab,ad,ZcL,show H[U]? =_ from ha,ae,J]
      rw[if_pos ⟨by rw[←hc.len];exact hl,by rw[ah.len];exact hle⟩];rfl
     ·rw[Za5]at j
      refine hh.set j rfl hp' ?_
      have R:=(Xae.1 ha).1
      simp only[RM]
      exact⟨_,true,XaK R,I.set hz _,fun _=>rfl⟩
    ·cases C
   ·rename_i cs j
    obtain⟨rfl,C⟩:=C
    obtain⟨U,aa,m',rfl,hp',ha,af,hm⟩:=hh.ptrC j hA
    have hm:=hm rfl
    subst hm
    split at C
    ·cases C
    ·rename_i hle ho
     have hle:=Xal hle
     have J:=(hT.get rfl (fun e=>ho e)).sz
     have ab:=RL.spl r af hc
     have hlen:(splice aa r (cellsOf x)).length=aa.length:=by
      rw[←ab.len,←af.len]
      unfold spl
      simp only[Xaw,Xas,XaZ]
      omega
     refine⟨.tup [],H.set U (.row [splice aa r (cellsOf x)] aa.length true),φ, .tup [],_, ?_,Le.refl φ, ?_,by simp only[RV,RL];exact⟨_,rfl,rfl⟩,C⟩
     ·simp only[ZeE,Xab,ad,ZcL,show H[U]? =_ from ha,List.getElem?_cons_zero,J]
      rw[if_pos ⟨by rw[←hc.len];exact hl,by rw[←af.len];exact hle⟩];rfl
     ·rw[Za5]at j
      refine hh.set j rfl hp' ?_
      have R:=(Xae.1 ha).1
      simp only[RM]
      exact⟨U,_,true,rfl,by rw[hlen];exact XaK R,ab,fun _=>rfl⟩
    ·cases C
   ·rename_i ct ak j
    obtain⟨hi,C⟩:=C
    obtain⟨U,es,m',rfl,hp',ha,I,hm⟩:=hh.ptrM j hA
    have hm:=hm rfl
    subst hm
    split at C
    ·cases C
    ·rename_i hle ho
     rw[Xag]at hle
     have aj:=Xam hle.1
     subst aj
     have J:=(hT.get rfl (fun e=>ho e)).sz
     have ai:=ZhA hle.2 hn hV
     have ag:=hc.len
     rw[ai]at ag
     obtain⟨c,ae,y,rfl,hy⟩:=I.get (Xac hi)
     refine⟨.tup [],H.set U (.row (es.set i [x]) 1 true),φ, .tup [],_, ?_,Le.refl φ, ?_,by simp only[RV,RL];exact⟨_,rfl,rfl⟩,C⟩
     ·simp only[ZeE,Xab,ad,ZcL,show H[U]? =_ from ha,ae,J,ai]
      rw[if_pos ⟨by rw[←hl,ag],by rw[←hl,ag];simp⟩]
      simp[splice]
     ·rw[Za5]at j
      refine hh.set j rfl hp' ?_
      have R:=(Xae.1 ha).1
      simp only[RM]
      exact⟨_,true,XaK R,I.set ⟨x,rfl,hV⟩ _,fun _=>rfl⟩
    ·cases C
   ·cases C
  ·cases C
 ·cases C
theorem Zkh (j:RH φ hp (fun a=>H[a]?)) (o:Option Nat):(φ++ [o])[hp.length]? =some o:=by
 rw[XaE (by rw[j.len];exact Xan _),j.len];simp
theorem Zl4 (C:RH φ hp (fun a=>H[a]?)) {cs:List SV} {j:List PV} (I:RL φ cs j) {k:SV→List SM→Prop} (J:k (.ptr hp.length 0 0) (hp++ [.cell cs true])):
 OutOK φ k (some (.ptr H.length 0 0,H++ [Mem.row [j] j.length true])):=by
 refine⟨_,_,φ++ [some H.length],_,_,rfl,Le.app _ _,C.push ?_, ?_,J⟩
 ·simp only[RM]
  refine⟨_,j,true,rfl, ?_,RL.mono (Le.app _ _) _ _ I,fun _=>rfl⟩
  simp
 ·simp only[RV]
  exact⟨_,Zkh C _,rfl⟩
theorem Zh8 (j:RH φ hp (fun a=>H[a]?)) {ct:CT} {l:List ct.D} {es:List (List PV)} (C:All2 (RR ct) l es) {n:Nat} {m:Option Nat} {k:SV→List SM→Prop} (I:k (.ref hp.length 0 n m) (hp++ [.row ct l true])):
 OutOK φ k (some (.ref H.length 0 n (m.getD n),H++ [Mem.row es ct.w true])):=by
 refine⟨_,_,φ++ [some H.length],_,_,rfl,Le.app _ _,j.push ?_, ?_,I⟩
 ·simp only[RM]
  refine⟨es,true, ?_,C,fun _=>rfl⟩
  simp
 ·simp only[RV]
  exact .inl ⟨_,Zkh j _,rfl⟩
def PLs (φ:Ph) (l:List (Nat×SV)) (j:List (Nat×PV)):Prop:=All2 (fun a b=>a.1=b.1∧RV φ a.2 b.2∧ZbH a.2=true) l j
theorem Ziy (j:Zq2 φ tm ρ): ∀ {l:List (Nat×Operand)} {ps:List (Nat×SV)},ZmO tm l=some ps→ ∃C,ZaV (fun(x:Nat×Operand)=>((ρ x.2).bind ZhS).map fun v=>(x.1,v)) l=some C∧PLs φ ps C
 | [],_,h=>by cases h;exact⟨[],rfl,trivial⟩
 |(i,x)::l,ps,h=>by
  simp only[ZmO]at h
  split at h
  ·rename_i V R
   cases I:ZbH V with
   |false=>rw[I]at h;cases h
   |true=>
    rw[I]at h
    simp only[cond_true]at h
    split at h
    ·rename_i r U
     cases h
     obtain⟨q,h1,J⟩:=j _ _ R
     obtain⟨C,h3,h4⟩:=Ziy j U
     refine⟨(i,q)::C, ?_,⟨rfl,J,I⟩,h4⟩
     rw[Za7,h3]
     simp only[h1,Xab,(ZcN I J).2,Xak]
    ·cases h
  ·cases h
theorem Zss {place:Nat→Option (Nat×Nat)} {fs:List (Nat×TypeId×Nat)} (R: ∀i off ty n,nth fs i=some (off,ty,n)→place i=some (off,n)): ∀ {ps:List (Nat×SV)} {J:List (Nat×PV)} {cs C:List SV} {U:List PV},Zvw fs cs ps=some C→PLs φ ps J→RL φ cs U→ ∃I,ZcS place U J=some I∧RL φ C I
 | [],[],cs,C,U,h,_,hr=>by cases h;exact⟨U,rfl,hr⟩
 |(i,V)::ps,(j,q)::J,cs,C,U,h,hp',hr=>by
  obtain⟨⟨h1,h2,h3⟩,h4⟩:=hp'
  simp only at h1 h2 h3
  subst h1
  simp only[Zvw]at h
  split at h
  ·rename_i off ty n hn
   cases hb:Nat.beq (Zbf V).length n&&Nat.ble (off+n) cs.length with
   |false=>rw[hb]at h;cases h
   |true=>
    rw[hb,cond_true]at h
    simp only[Xag]at hb
    have e1:=Xam hb.1
    have e2:=Xal hb.2
    have hc:=(ZcN h3 h2).1
    obtain⟨I,h5,h6⟩:=Zss R h h4 (RL.spl off hr hc)
    refine⟨I, ?_,h6⟩
    simp only[ZcS,R _ _ _ _ hn,Xab]
    rw[if_pos ⟨by rw[←hc.len];exact e1,by rw[←hr.len];exact e2⟩]
    exact h5
  ·cases h
theorem Zo1 {n:Nat}: ∀ {ps:List (Nat×SV)} {J:List (Nat×PV)} {cs C:List SV} {R:List PV},ZuO n cs ps=some C→PLs φ ps J→RL φ cs R→ ∃I,ZcS (fun i=>some (i*n,n)) R J=some I∧RL φ C I
 | [],[],cs,C,R,h,_,hr=>by cases h;exact⟨R,rfl,hr⟩
 |(i,V)::ps,(j,q)::J,cs,C,R,h,hp',hr=>by
  obtain⟨⟨h1,h2,h3⟩,h4⟩:=hp'
  simp only at h1 h2 h3
  subst h1
  simp only[ZuO]at h
  cases U:Nat.beq (Zbf V).length n&&Nat.ble (i*n+n) cs.length with
  |false=>rw[U]at h;cases h
  |true=>
   rw[U,cond_true]at h
   simp only[Xag]at U
   have e1:=Xam U.1
   have e2:=Xal U.2
   have hc:=(ZcN h3 h2).1
   obtain⟨I,h5,h6⟩:=Zo1 h h4 (RL.spl _ hr hc)
   refine⟨I, ?_,h6⟩
   simp only[ZcS,Xab]
   rw[if_pos ⟨by rw[←hc.len];exact e1,by rw[←hr.len];exact e2⟩]
   exact h5
theorem ZpI {ct:CT}: ∀ {ps:List (Nat×SV)} {C:List (Nat×PV)} {l I:List ct.D} {es:List (List PV)},ZvG ct l ps=some I→PLs φ ps C→All2 (RR ct) l es→ ∃es',ZcQ ct.w es C=some es'∧All2 (RR ct) I es'
 | [],[],l,I,es,h,_,J=>by cases h;exact⟨es,rfl,J⟩
 |(i,V)::ps,(j,q)::C,l,I,es,h,hp',J=>by
  obtain⟨⟨h1,h2,h3⟩,h4⟩:=hp'
  simp only at h1 h2 h3
  subst h1
  simp only[ZvG]at h
  split at h
  ·rename_i x R
   have hc:=(ZcN h3 h2).1
   have R:=Zdh R hc
   cases U:Nat.ble (i+1) l.length with
   |false=>rw[U]at h;cases h
   |true=>
    rw[U,cond_true]at h
    have e2:=Xal U
    obtain⟨es',h5,h6⟩:=ZpI h h4 (J.set R i)
    refine⟨es', ?_,h6⟩
    have:=J.len
    simp only[ZcQ]
    rw[if_pos ⟨R.len,by omega⟩]
    exact h5
  ·cases h
theorem Zsq (hT:TysOK P T) {t:TypeId} {ps:List (Nat×SV)} {U:List (Nat×PV)} {k:SV→Prop} (j:Zr2 T t ps k) (hp':PLs φ ps U):ValOK φ k (ZgR P t U):=by
 unfold Zr2 at j
 split at j
 ·rename_i fs J
  have h0:=hT.get J (by simp)
  obtain⟨zs,hz,C,_⟩:=h0.zero
  have hm:=h0.k
  rw[J]at hm
  obtain⟨a,hu,ab,ad⟩:=hm
  split at j
  ·rename_i cs I
   obtain⟨ae,h1,h2⟩:=Zss (φ:=φ) (place:=fun i=>(a[i]?).bind fun f=>(Za1 P f.type).map fun n=>(f.offset,n)) (fun i off ty n hn=>by
    obtain⟨h3,h4⟩:=Zg8 hT J hn
    simp only[fieldAt,hu]at h3
    obtain⟨f,R,af⟩:=Zxf h3
    cases af
    simp only[R,Xab,h4,Xak]) I hp' (C φ)
   have h3: ∃r,ZaV (fun f:Field=>Za1 P f.type) a.toList=some r:=by
    have: ∀l:List Field,(∀f∈l,∃n,Za1 P f.type=some n)→ ∃r,ZaV (fun f:Field=>Za1 P f.type) l=some r:=by
     intro l
     induction l with
     |nil=>exact fun _=>⟨[],rfl⟩
     |cons f r ih=>
      intro R
      obtain⟨n,hn⟩:=R f Xah
      obtain⟨r',ag⟩:=ih fun g hg=>R g (Xai _ hg)
      exact⟨n::r',by rw[Za7,hn,ag];rfl⟩
    refine this _ fun f R=> ?_
    have:(f.offset,f.type)∈a.toList.map (fun f=>(f.offset,f.type)):=Xbq.2 ⟨f,R,rfl⟩
    rw[←ab]at this
    obtain⟨y,hy,aa⟩:=Xbq.1 this
    have:=ad y hy
    simp only[Prod.mk.injEq]at aa
    rw[aa.2]at this
    exact⟨_,this⟩
   obtain⟨r,hr⟩:=h3
   simp only[ZgR,hz,Xab,hu,h1,hr,Xak]
   refine .mk ?_ j
   simp only[RV]
   exact⟨_,rfl,h2⟩
  ·cases j
 ·rename_i n e J
  have h0:=hT.get J (by simp)
  obtain⟨zs,hz,C,_⟩:=h0.zero
  have hm:=h0.k
  rw[J]at hm
  split at j
  ·cases j
  ·rename_i cs I ho
   have ah:=(hT.get rfl (fun e=>ho e)).sz
   obtain⟨ae,h1,h2⟩:=Zo1 I hp' (C φ)
   simp only[ZgR,hz,Xab,show P.underlying t=_ from hm,ah,h1,Xak]
   refine .mk ?_ j
   simp only[RV]
   exact⟨_,rfl,h2⟩
  ·cases j
 ·cases j
theorem Zc2 (I:TysOK P T) {t e:TypeId} (C:(T t).k= .slice e):Zip P t=some e∧P.underlying t=some (.slice e):=by
 have j:=(I.get C (by simp)).k
 rw[C]at j
 exact⟨by simp only[Zip,show P.underlying t=_ from j],j⟩
theorem ZoF {n:Nat}: ∀ {ps:List (Nat×SV)} {I:List (Nat×PV)} {C:List SV} {i:Nat},Zue i ps=some C→PLs φ ps I→i+ps.length=n→ ∀es:List (List PV),es.length=n→ ∃es',ZcQ 1 es I=some es'∧ ∃tl,es'=es.take i++tl∧All2 (fun V c=> ∃q,c=[q]∧RV φ V q) C tl
 | [],[],C,i,h,_,R,es,J=>by
  cases h
  simp only[XbG,Nat.add_zero]at R
  exact⟨es,rfl,[],by rw[XaF,Xay (by omega)],trivial⟩
 |(j,V)::ps,(j',q)::I,C,i,h,hp',R,es,J=>by
  obtain⟨⟨h1,U,h3⟩,h4⟩:=hp'
  simp only at h1 U h3
  subst h1
  simp only[Zue]at h
  split at h
  ·rename_i hb
   rw[Xag]at hb
   have aa:=Xam hb.1
   subst aa
   split at h
   ·rename_i l hl
    cases h
    simp only[Xap]at R
    have hc:=ZhA hb.2 h3 U
    obtain⟨es',h5,tl,h6,h7⟩:=ZoF (n:=n) hl h4 (by omega) (es.set i [q]) (by simp[J])
    refine⟨es', ?_,[q]::tl, ?_,⟨q,rfl,U⟩,h7⟩
    ·simp only[ZcQ,hc]
     rw[if_pos ⟨rfl,by omega⟩]
     exact h5
    ·rw[h6,XaQ (by simp;omega),List.getElem_set_self,XbA (Xan _)]
     simp
   ·cases h
  ·cases h
theorem Zjz (hT:TysOK P T) (hh:RH φ hp (fun a=>H[a]?)) {t:TypeId} {n:Nat} {ps:List (Nat×SV)} {I:List (Nat×PV)} {k:SV→List SM→Prop} (C:ZfL T t n ps hp k) (hp':PLs φ ps I):
 OutOK φ k ((Zbm P t n I).map fun m=>(.ref H.length 0 n n,H++ [m])):=by
 unfold ZfL at C
 split at C
 ·rename_i e hk
  obtain⟨h1,_⟩:=Zc2 hT hk
  split at C
  ·cases C
  ·rename_i hn U ho
   have hn:0<n∨I=[]:=by
    cases n with
    |succ n=>exact .inl (Nat.succ_pos n)
    |zero=>
     cases ps with
     |nil=>
      cases I with
      |nil=>exact .inr rfl
      |cons _ _=>cases hp'
     |cons _ _=>cases hn
   simp only[Xag]at U
   have ab:=Xal U.1
   have ad:=Xal U.2
   have h0:=hT.get rfl (fun e=>ho e)
   obtain⟨zs,hz,ai,ae⟩:=h0.zero
   have cond:(0<n∨I=[])∧0<(T e).sz∧zs.length=(T e).sz∧n*(T e).sz≤16777216:=⟨hn,ab,ae,ad⟩
   have R: ∀V,n=1→ps=[(0,V)]→Nat.beq (Zbf V).length (T e).sz=true→k (.ref hp.length 0 1 none) (hp++ [.cell (Zbf V) true])→OutOK φ k ((Zbm P t n I).map fun m=>(.ref H.length 0 n n,H++ [m])):=by
    rintro V rfl rfl hlen C
    have hlen:=Xam hlen
    obtain⟨_,qr,rfl,h4⟩: ∃q qr,I=(0,q)::qr∧RV φ V q∧ZbH V=true∧qr=[]:=by
     match I,hp' with
     | [(j,q)],⟨⟨e1,e2,e3⟩,_⟩=>exact⟨q,[],by rw[←show 0=j from e1],e2,e3,rfl⟩
    obtain⟨h4,h5,rfl⟩:=h4
    have hc:=(ZcN h5 h4).1
    have af:=hc.len
    simp only[Zbm,h1,Xab,h0.sz,hz]
    rw[if_pos cond]
    simp only[ZcQ]
    rw[if_pos ⟨by omega,by simp⟩]
    simp only[Xak,List.replicate_succ,List.replicate_zero,List.set_cons_zero]
    rw[show(T e).sz=(cellsOf _).length from by rw[←af];exact hlen.symm]
    refine⟨_,_,φ++ [some H.length],_,_,rfl,Le.app _ _,hh.push ?_, ?_,C⟩
    ·simp only[RM]
     refine⟨_,_,true,rfl, ?_,RL.mono (Le.app _ _) _ _ hc,fun _=>rfl⟩
     simp
    ·simp only[RV]
     exact .inl ⟨_,Zkh hh _,rfl⟩
   split at C
   ·rename_i ct ag
    obtain⟨hw,ah⟩:=h0.ct ct ag
    split at C
    ·rename_i l hl
     obtain⟨es',h2,h3⟩:=ZpI hl hp' (All2.rep (ah _ hz) n)
     rw[hw]at h2
     simp only[Zbm,h1,Xab,h0.sz,hz]
     rw[if_pos cond,h2]
     simp only[Xak]
     rw[←hw]
     exact Zh8 hh h3 (m:=none) C
    ·split at C
     ·rename_i aj aa J hlen
      have J:=Xam J
      have hlen:=Xam hlen
      obtain⟨es',h2,tl,h3,h4⟩:=ZoF (n:=n) aa hp' (by omega) (List.replicate n zs) (by simp)
      rw[Xa5,List.nil_append]at h3
      subst h3
      rw[←J]at h2
      simp only[Zbm,h1,Xab,h0.sz,hz]
      rw[if_pos cond,h2]
      simp only[Xak]
      rw[J]
      refine⟨_,_,φ++ [some H.length],_,_,rfl,Le.app _ _,hh.push ?_, ?_,C⟩
      ·simp only[RM]
       refine⟨es',true, ?_, ?_,fun _=>rfl⟩
       ·simp
       ·exact h4.imp (fun _ _ ⟨q,hq,hr⟩=>⟨q,hq,RV.mono (Le.app _ _) _ _ hr⟩)
      ·simp only[RV]
       exact .inl ⟨_,Zkh hh _,rfl⟩
     ·split at C
      ·split at C
       ·exact R _ rfl rfl (by assumption) C
       ·cases C
      ·cases C
   ·split at C
    ·split at C
     ·exact R _ rfl rfl (by assumption) C
     ·cases C
    ·cases C
  ·cases C
 ·cases C
theorem Zx8 {x y:Operand} (h:ZAX x y=true):evS tm x=evS tm y:=by
 unfold ZAX at h
 split at h
 ·rw[Xam h]
 ·simp only[Xag,beq_iff_eq]at h
  rw[Zfy h.1,h.2]
 ·cases h
theorem ZkO (hT:TysOK P T) (hh:RH φ hp (fun a=>H[a]?)) (J:Zq2 φ tm ρ) {t:TypeId} {lo co:Operand} {k:SV→List SM→Prop} (C:Zho T t lo co tm hp k):OutOK φ k (ZiN H (Zcy P H.length t (ρ lo) (ρ co))):=by
 unfold Zho at C
 split at C
 ·rename_i l _ c hl hc
  obtain⟨_,h1,h2⟩:=J _ _ hl
  obtain⟨_,h3,h4⟩:=J _ _ hc
  have e2:=ZbX h2
  have e4:=ZbX h4
  subst e2
  subst e4
  split at C
  ·rename_i e hk
   obtain⟨ht,_⟩:=Zc2 hT hk
   split at C
   ·cases C
   ·rename_i ct aa hs ho
    have hs:=Xal hs
    have h0:=hT.get rfl (fun e=>ho e)
    obtain⟨zs,hz,I,R⟩:=h0.zero
    obtain⟨hw,U⟩:=h0.ct ct aa
    obtain⟨j,C⟩:=C
    have hm:Zcy P H.length t (ρ lo) (ρ co)=some (.ref H.length 0 l.toNat c.toNat,[Mem.row (List.replicate c.toNat zs) ct.w true],[]):=by
     simp only[Zcy,h1,h3,Xab,Zfm,ht,h0.sz,h0.by_,hz]
     rw[if_pos ⟨j.1,j.2.1,j.2.2.1,j.2.2.2,hs,R⟩,hw];rfl
    rw[hm]
    show OutOK φ k (some (_,H++_))
    split at C
    ·rename_i he
     have:=Zx8 (tm:=tm) he
     rw[hl,hc]at this
     have:l=c:=by
      simp only[Xaf,SV.v.injEq,CT.i.injEq]at this
      obtain⟨rfl,h5⟩:=this
      exact eq_of_heq h5
     subst this
     split at C
     ·rename_i hzero
      have I:=I φ
      rw[hzero]at I
      simp only[RL,RV]at I
      obtain⟨_,_,rfl,rfl,rfl⟩:=I
      have ab:ct.w=1:=by rw[hw,←R];rfl
      rw[ab]
      refine⟨_,_,φ++ [some H.length],_,_,rfl,Le.app _ _,hh.push ?_, ?_,C⟩
      ·simp only[RM]
       refine⟨List.replicate l.toNat [.nils],true,by simp, ?_,fun _=>rfl⟩
       generalize l.toNat=n
       induction n with
       |zero=>exact trivial
       |succ n ih=>exact⟨⟨.nils,rfl,by simp only[RV]⟩,ih⟩
      ·simp only[RV]
       exact .inl ⟨_,Zkh hh _,rfl⟩
     ·exact Zh8 hh (All2.rep (U _ hz) _) (m:=none) C
    ·exact Zh8 hh (All2.rep (U _ hz) _) (m:=some c.toNat) C
   ·cases C
  ·cases C
 ·cases C
theorem Zdi:Zm4 ρ none=some none:=rfl
theorem Zb2 {x:Operand} {q:PV} (j:ρ x=some q):Zm4 ρ (some x)=some (some q):=by simp only[Zm4,j,Xak]
theorem ZBC {n m:Nat} {kk:IntKind} {l:Int} (j:0≤l) (C:l≤n):ZbU n m (some (.int kk l)) none none=some (l.toNat,n,m)∧(n=m→ZeT n (some (.int kk l)) none=some (l.toNat,n))∧l.toNat≤n:=by
 refine⟨?_,fun _=> ?_,by omega⟩
 ·simp only[ZbU,Zu4,bLo,bMx,Option.isSome_none,XbD,XaG,if_false,Xab]
  rw[if_pos ⟨j,C⟩];rfl
 ·simp only[ZeT,bHi,bLo,Xab]
  rw[if_pos ⟨j,C⟩];rfl
theorem ZBL {n m:Nat} {kk:IntKind} {u:Int} (j:0≤u) (C:u≤m):ZbU n m none (some (.int kk u)) none=some (0,u.toNat,m)∧(n=m→ZeT n none (some (.int kk u))=some (0,u.toNat))∧u.toNat≤m:=by
 refine⟨?_,fun e=> ?_,by omega⟩
 ·simp only[ZbU,Zu4,bLo,bMx,Option.isSome_none,XbD,XaG,if_false]
  rw[if_pos ⟨j,C⟩];rfl
 ·simp only[ZeT,bHi,bLo]
  rw[if_pos ⟨j,by rw[e];exact C⟩];rfl
theorem ZBJ {n m:Nat} {j C:IntKind} {l u:Int} (I:0≤l) (R:l≤u) (J:u≤m):ZbU n m (some (.int j l)) (some (.int C u)) none=some (l.toNat,u.toNat,m)∧(n=m→ZeT n (some (.int j l)) (some (.int C u))=some (l.toNat,u.toNat))∧l.toNat≤u.toNat∧u.toNat≤m:=by
 refine⟨?_,fun e=> ?_,by omega,by omega⟩
 ·simp only[ZbU,Zu4,bLo,bMx,Option.isSome_none,XbD,XaG,if_false]
  rw[if_pos ⟨by omega,J⟩]
  simp only[Xab]
  rw[if_pos ⟨I,by omega⟩];rfl
 ·simp only[ZeT,bHi,bLo]
  rw[if_pos ⟨by omega,by rw[e];exact J⟩]
  simp only[Xab]
  rw[if_pos ⟨I,by omega⟩];rfl
theorem Zjm (I:Zq2 φ tm ρ) {n m:Nat} {lo hi:Option Operand} {k:Nat→Nat→Prop} (j:Zx9 tm n m lo hi k): ∃l' h' J C,Zm4 ρ lo=some l'∧Zm4 ρ hi=some h'∧ZbU n m l' h' none=some (J,C,m)∧(n=m→ZeT n l' h'=some (J,C))∧J≤C∧(n≤m→C≤m)∧k J C:=by
 unfold Zx9 at j
 split at j
 ·exact⟨none,none,0,n,rfl,rfl,rfl,fun _=>rfl,Xao _,id,j⟩
 ·split at j
  ·rename_i l hl
   obtain⟨_,R,U⟩:=I _ _ hl
   have e2:=ZbX U
   subst e2
   obtain⟨⟨h3,h4⟩,j⟩:=j
   obtain⟨e3,e4,e5⟩:=ZBC (n:=n) (m:=m) h3 h4
   exact⟨_,none,_,n,Zb2 R,rfl,e3,e4,e5,id,j⟩
  ·cases j
 ·split at j
  ·rename_i u hu
   obtain⟨_,R,U⟩:=I _ _ hu
   have e2:=ZbX U
   subst e2
   obtain⟨⟨h3,h4⟩,j⟩:=j
   obtain⟨e3,e4,e5⟩:=ZBL (n:=n) (m:=m) h3 h4
   exact⟨none,_,0,_,rfl,Zb2 R,e3,e4,Xao _,fun _=>e5,j⟩
  ·cases j
 ·split at j
  ·rename_i l _ u hl hu
   obtain⟨_,R,U⟩:=I _ _ hl
   obtain⟨_,aa,ab⟩:=I _ _ hu
   have e2:=ZbX U
   have ad:=ZbX ab
   subst e2
   subst ad
   obtain⟨⟨h3,h4,h5⟩,j⟩:=j
   obtain⟨e3,e4,e5,e6⟩:=ZBJ (n:=n) (m:=m) h3 h4 h5
   exact⟨_,_,_,_,Zb2 R,Zb2 aa,e3,e4,e5,fun _=>e6,j⟩
  ·cases j
theorem Zjc {ct:CT} {l:List ct.D} {es:List (List PV)} (h:All2 (RR ct) l es) {z:Nat} (j:ct.w=z):Ze2 es z=true:=by
 cases es with
 |nil=>rfl
 |cons c r=>
  cases l with
  |nil=>exact h.elim
  |cons x l=>
   have:=h.1.len
   simp only[Ze2,this,j,beq_self_eq_true]
theorem ZrS (hT:TysOK P T) (hh:RH φ hp (fun a=>H[a]?)) (aa:Zq2 φ tm ρ) {t:TypeId} {x:Operand} {V:SV} {q:PV} {lo hi:Option Operand} {k:SV→Prop} (I:Zsg T t tm hp V lo hi k) (hx:ρ x=some q) (hV:RV φ V q):ValOK φ k (Zcd P H ρ t x lo hi none):=by
 unfold Zsg at I
 split at I
 ·rename_i hk
  have h1:=(hT.get hk (by simp)).k
  rw[hk]at h1
  obtain⟨l',h',C,j,e1,R,J,e4,e5,_,I⟩:=Zjm aa I
  rw[ZeG hV]at hx
  simp only[Zcd,hx,e1,R,Xab,ZbO,show P.underlying t=_ from h1,ZnB,e4 rfl,Xak,Zdi,Zy5]
  exact .mk (vs _) I
 ·rename_i e hk
  obtain⟨_,hu⟩:=Zc2 hT hk
  split at I
  ·cases I
  ·rename_i hw ho
   have hw:=Xam hw
   have h0:=hT.get rfl (fun e=>ho e)
   obtain⟨l',h',C,j,e1,R,J,e4,e5,e6,I⟩:=Zjm aa I
   rcases ZhN hV with⟨rfl,rfl⟩|⟨es,rfl,ab⟩
   ·simp only[XbG]at J
    simp only[Zcd,hx,e1,R,Xab,ZbO,hu,h0.sz,J,Xak,Zdi]
    refine .mk ?_ I
    show RR _ _ _
    exact .inl ⟨rfl,by simp⟩
   ·simp only[Zcd,hx,e1,R,Xab,ZbO,hu,h0.sz,←ab.len,J,Zdi]
    rw[if_pos (Zjc ab hw)]
    refine .mk ?_ I
    show RR _ _ _
    exact .inr ⟨_,rfl,ab.take _|>.drop _⟩
  ·cases I
 ·rename_i e id i n m hk
  obtain⟨_,hu⟩:=Zc2 hT hk
  split at I
  ·cases I
  ·rename_i ct l b ad ho
   have h0:=hT.get rfl (fun e=>ho e)
   split at I
   ·rename_i hw
    have hw:=Xam hw
    have fin: ∀l' h' C j M,Zm4 ρ lo=some l'→Zm4 ρ hi=some h'→ZbU n (m.getD n) l' h' none=some (C,j,m.getD n)→C≤j→(n≤m.getD n→j≤m.getD n)→Option.getD M (j-C)=m.getD n-C→k (.ref id (i+C) (j-C) M)→ValOK φ k (Zcd P H ρ t x lo hi none):=by
     intro l' h' C j M e1 R J e5 e6 hM U
     rcases hh.ref ad hV with⟨a,es,m',rfl,hp',ha,ab,_⟩|⟨rfl,rfl,rfl,rfl,hm,hp'⟩
     ·simp only[Zcd,hx,e1,R,Xab,ZbO,hu,h0.sz,J,Zdi,show H[a]? =_ from ha]
      rw[if_pos hw]
      refine .mk ?_ U
      simp only[RV]
      exact .inl ⟨a,hp',by rw[hM]⟩
     ·rw[hm]at J
      simp only[Zcd,hx,e1,R,Xab,ZbO,hu,h0.sz,J,Xak,Zdi]
      refine .mk ?_ U
      have:=e6 (Xao _)
      rw[hm]at this
      simp only[RV]
      exact .inr ⟨hp',trivial,by omega,by omega,by rw[hM];omega⟩
    split at I
    ·rename_i j m' _ _
     obtain⟨l',h',C,j,e1,R,J,e4,e5,e6,U⟩:=Zjm aa I
     have j:j=n:=by
      simp only[Zdi,Xaf]at R
      subst R
      simp only[ZbU,Zu4,bMx,Option.isSome_none,XbD,XaG,if_false,Xab]at J
      obtain⟨x,_,h4⟩:=Zak J
      cases h4;rfl
     subst j
     exact fin l' h' C _ none e1 R J e5 e6 rfl U
    ·obtain⟨l',h',C,j,e1,R,J,e4,e5,e6,I⟩:=Zjm aa I
     exact fin l' h' C j _ e1 R J e5 e6 rfl I
   ·cases I
  ·cases I
 ·rename_i e hk
  obtain⟨_,hu⟩:=Zc2 hT hk
  split at I
  ·cases I
  ·rename_i ho
   have h0:=hT.get rfl (fun e=>ho e)
   obtain⟨l',h',C,j,e1,R,J,e4,e5,_,I⟩:=Zjm aa I
   simp only[RV]at hV
   subst hV
   simp only[Zcd,hx,e1,R,Xab,ZbO,hu,h0.sz,J,Xak,Zdi]
   exact .mk (by simp only[RV]) I
 ·cases I
theorem Zzg {n m:Nat} {j C I:IntKind} {l u w:Int} (J:0≤l) (U:l≤u) (h5:u≤w) (R:w≤m):ZbU n m (some (.int j l)) (some (.int C u)) (some (.int I w))=some (l.toNat,u.toNat,w.toNat):=by
 simp only[ZbU,Zu4,bLo,bMx,Option.isNone_some,Bool.and_false,XaG,if_false]
 rw[if_pos ⟨by omega,by omega⟩]
 simp only[Xab]
 rw[if_pos ⟨J,by omega⟩]
 simp only[Xab]
 rw[if_pos ⟨by omega,R⟩];rfl
theorem ZBd {l u w:Int} (g1:0≤l) (g2:l≤u) (g3:u≤w) (g4:w≤((0:Nat):Int)):l.toNat=0∧u.toNat=0∧w.toNat=0:=by omega
theorem Zqp (hT:TysOK P T) (hh:RH φ hp (fun a=>H[a]?)) (I:Zq2 φ tm ρ) {t:TypeId} {x:Operand} {V:SV} {q:PV} {lo hi mx:Option Operand} {k:SV→Prop} (j:Znw T t tm hp V lo hi mx k) (hx:ρ x=some q) (hV:RV φ V q):ValOK φ k (Zcd P H ρ t x lo hi mx):=by
 unfold Znw at j
 split at j
 ·rename_i e id i n m a b c hk
  obtain⟨_,hu⟩:=Zc2 hT hk
  split at j
  ·cases j
  ·rename_i ct l bb J ho
   have h0:=hT.get rfl (fun e=>ho e)
   split at j
   ·rename_i hw
    have hw:=Xam hw
    split at j
    ·rename_i l _ u _ w hl ab ad
     obtain⟨_,h1,h2⟩:=I _ _ hl
     obtain⟨_,R,ae⟩:=I _ _ ab
     obtain⟨_,C,U⟩:=I _ _ ad
     have e2:=ZbX h2
     have af:=ZbX ae
     have aa:=ZbX U
     subst e2
     subst af
     subst aa
     obtain⟨⟨g1,g2,g3,g4⟩,j⟩:=j
     rcases hh.ref J hV with⟨a,es,m',rfl,hp',ha,ag,_⟩|⟨rfl,rfl,rfl,rfl,hm,hp'⟩
     ·simp only[Zcd,hx,Zb2 h1,Zb2 R,Zb2 C,Xab,ZbO,hu,h0.sz,Zzg g1 g2 g3 g4,show H[a]? =_ from ha]
      rw[if_pos hw]
      refine .mk ?_ j
      simp only[RV]
      exact .inl ⟨a,hp',rfl⟩
     ·rw[hm]at g4
      simp only[Zcd,hx,Zb2 h1,Zb2 R,Zb2 C,Xab,ZbO,hu,h0.sz,Zzg (n:=0) (m:=0) g1 g2 g3 g4,Xak]
      refine .mk ?_ j
      obtain⟨z1,z2,z3⟩:=ZBd g1 g2 g3 g4
      rw[z1,z2,z3]
      simp only[RV]
      exact .inr ⟨hp',trivial,trivial,trivial,rfl⟩
    ·cases j
   ·cases j
  ·cases j
 ·cases j
end
end
end Go.Tx
