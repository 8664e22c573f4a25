/-
 Numbers in 32-bit words: what a list of words is worth.
-/
import Derived.Test.YtgmjnhiakpcpbaaGreatDoorDe
import Derived.Test.YtgmjnhiakpcpbaaGreatDoorAmC
import Derived.Lib.Bytealg
set_option linter.constructorNameAsVariable false
set_option linter.unusedSimpArgs false
set_option linter.unusedVariables false
namespace Dv
def Wd (l:List Int):Prop:= ∀x∈l,0≤x∧x<4294967296
def wv:List Int→Int
 | []=>0
 |x::r=>x+4294967296*wv r
theorem ZrM: ∀ (l m:List Int),wv (l++m)=wv l+4294967296^l.length*wv m
 | [],m=>by simp[wv]
 |x::l,m=>by
  simp only[List.cons_append,wv,ZrM l m,List.length_cons,Int.pow_succ]
  rw[Int.mul_add,←Int.mul_assoc,Int.mul_comm _ 4294967296,Int.add_assoc]
theorem Zti {l:List Int} {i:Nat} (h:i<l.length):wv (l.take (i+1))=wv (l.take i)+4294967296^i*l[i]:=by
 rw[List.take_succ_eq_append_getElem h,ZrM]
 simp[wv,Nat.min_eq_left (Nat.le_of_lt h)]
theorem ZeZ: ∀ {l:List Int},Wd l→0≤wv l∧wv l<4294967296^l.length
 | [],_=>by simp[wv]
 |x::l,h=>by
  have h1:=h x List.mem_cons_self
  have h2:=ZeZ (l:=l) fun y hy=>h y (List.mem_cons_of_mem _ hy)
  rw[wv,List.length_cons,Int.pow_succ]
  generalize(4294967296:Int)^l.length=p at h2⊢
  omega
def Nz (l:List Int):Prop:= ∀h:l≠ [],l.getLast h≠0
theorem ZlR {m n b:Nat} (hb:0<b) (h:m≤n):(b:Int)^m≤(b:Int)^n:=by
 have:=Nat.pow_le_pow_right hb h
 rw[←Int.natCast_pow,←Int.natCast_pow]
 exact Int.ofNat_le.2 this
theorem Zm7: ∀ {l:List Int},Wd l→Nz l→l≠ []→0<wv l
 | [],_,_,h=>absurd rfl h
 | [x],hw,hn,_=>by
  have h1:=hw x (by simp)
  have h2:x≠0:=hn (by simp)
  simp only[wv];omega
 |x::y::l,hw,hn,_=>by
  have h1:=hw x (by simp)
  have h2:0<wv (y::l):=Zm7 (fun z hz=>hw z (List.mem_cons_of_mem _ hz)) (fun h=>by
   have:=hn (by simp)
   rwa[List.getLast_cons (by simp)]at this) (by simp)
  show 0<x+4294967296*wv (y::l)
  omega
end Dv
/-
 What two library calls answer, as functions on values: a number's text, a text's number.
-/
namespace Dv
open Go Go.Am
def Ztu:Nat→Nat→List UInt8
 |0,_=> []
 |k+1,n=>match Nat.ble 10 n with
  |true=>Ztu k (n/10)++ [UInt8.ofNat (48+n % 10)]
  |false=> [UInt8.ofNat (48+n)]
theorem ZpM: ∀ (k n:Nat),1≤k→n<10^k→Ztu k n=Lib.decDigits n
 |0,_,h,_=>absurd h (by decide)
 |k+1,n,_,h=>by
  rw[Ztu]
  cases hb:Nat.ble 10 n with
  |true=>
   have hb:=Nat.le_of_ble_eq_true hb
   have hk:1≤k:=by
    rcases k with _|k
    ·simp at h;omega
    ·omega
   simp only[]
   rw[ZpM k (n/10) hk (by rw[Nat.pow_succ]at h;omega),Lib.decDigits.eq_1 n,dif_neg (by omega)]
  |false=>
   have hb:n<10:=by
    rcases Nat.lt_or_ge n 10 with h'|h'
    ·exact h'
    ·rw[Nat.ble_eq_true_of_le h']at hb;cases hb
   simp only[]
   rw[Lib.decDigits_one hb]
def Zf7:List (List PV)→Option (List Int)
 | []=>some []
 | [.int .u32 x]::r=>match decide (0≤x)&&decide (x<4294967296)with
  |true=>(Zf7 r).map fun l=>x::l
  |false=>none
 |_=>none
def Zh2 (m:Bool) (l:List Int):List UInt8:=match l.isEmpty with
 |true=> [48]
 |false=>match Nat.ble l.length 210 with
  |true=>(match m with|true=> [45]|false=> [])++Ztu 2100 (wv l).toNat
  |false=> []
def Zh3 (l:List Int):Bool:=match l.isEmpty with
 |true=>true
 |false=>match Nat.ble l.length 210 with
  |true=>Nat.ble (Ztu 2100 (wv l).toNat).length 2000
  |false=>false
def textG:List PV→Option PV
 | [.agg [.bool m, .nils]]=>some (.tup [.str ⟨(Zh2 m []).toArray⟩, .bool (Zh3 [])])
 | [.agg [.bool m, .lst es]]=>(Zf7 es).map fun l=> .tup [.str ⟨(Zh2 m l).toArray⟩, .bool (Zh3 l)]
 |_=>none
def Zvv (s:List UInt8):Bool:=s.all fun c=>Nat.ble 48 c.toNat&&Nat.ble c.toNat 57
def parseG:List PV→Option PV
 | [.str s, .int .i64 b, .int .i64 z]=>match decide (b=10)&&decide (z=32)&&(Zvv s.data.toList&&Nat.ble 1 s.data.toList.length&&Nat.ble s.data.toList.length 9)with
  |true=>some (.tup [.int .u64 (dec s.data.toList:Nat), .nili])
  |false=>none
 |_=>none
end Dv
/-
 The place of a byte in a text.
-/
namespace Dv
open Go Go.Am Go.Lib
def Zul:List UInt8→UInt8→Nat→Int
 | [],_,_=> -1
 |b::l,c,i=>match Nat.beq b.toNat c.toNat with
  |true=>(i:Int)
  |false=>Zul l c (i+1)
theorem Zgr: ∀ (l:List UInt8) (c:UInt8),-1≤indexByte l c
 | [],_=>Int.le_refl _
 |b::l,c=>by
  have:=Zgr l c
  rw[indexByte]
  split
  ·decide
  ·split
   ·decide
   ·omega
theorem Zoi: ∀ (l:List UInt8) (c:UInt8) (i:Nat),Zul l c i=if indexByte l c= -1 then-1 else i+indexByte l c
 | [],_,_=>rfl
 |b::l,c,i=>by
  have h1:=Zgr l c
  have ih:=Zoi l c (i+1)
  have hb:Nat.beq b.toNat c.toNat=(b==c):=by
   rw[Bool.eq_iff_iff,Nat.beq_eq,beq_iff_eq]
   exact UInt8.toNat_inj
  rw[Zul,indexByte,hb]
  cases hbc:b==c with
  |true=>simp
  |false=>
   simp only[Bool.false_eq_true,if_false,ih]
   by_cases h:indexByte l c= -1
   ·simp[h]
   ·rw[if_neg h]
    have h2:(indexByte l c== -1)=false:=by simpa using h
    rw[h2]
    simp only[Bool.false_eq_true,if_false]
    rw[if_neg (by omega)]
    omega
theorem ZuC (l:List UInt8) (c:UInt8):Zul l c 0=indexByte l c:=by
 rw[Zoi]
 split
 ·rename_i h;exact h.symm
 ·omega
def indexG:List PV→Option PV
 | [.str s, .str t]=>match t.data.toList with
  | [c]=>some (.int .i64 (Zul s.data.toList c 0))
  |_=>none
 |_=>none
end Dv
