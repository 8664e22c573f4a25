/-
 Numbers in 32-bit words: what a list of words is worth.
-/
import Derived.Test.YtdnodlkdndfplaaGreatDoorDe
import Derived.Test.YtdnodlkdndfplaaGreatDoorAmC
import Derived.Lib.Bytealg
import Derived.Lib.LaidTab
import Derived.Lib.ItoaMem
import Derived.Test.YtdnodlkdndfplaaGreatDoorRows
set_option linter.constructorNameAsVariable false
set_option linter.unusedSimpArgs false
set_option linter.unusedVariables false
namespace Dv
def Wd (l:List Int):Prop:= ∀x∈l,0≤x∧x<4294967296
def wv:List Int→Int
 | []=>0
 |x::r=>x+4294967296*wv r
theorem ZcJ: ∀ (l m:List Int),wv (l++m)=wv l+4294967296^l.length*wv m
 | [],m=>by simp[wv]
 |x::l,m=>by
  simp only[List.cons_append,wv,ZcJ l m,List.length_cons,Int.pow_succ]
  rw[Int.mul_add,←Int.mul_assoc,Int.mul_comm _ 4294967296,Int.add_assoc]
theorem Za4 {l:List Int} {i:Nat} (h:i<l.length):wv (l.take (i+1))=wv (l.take i)+4294967296^i*l[i]:=by
 rw[List.take_succ_eq_append_getElem h,ZcJ]
 simp[wv,Nat.min_eq_left (Nat.le_of_lt h)]
theorem Zby {l:List Int} {i:Nat} {x:Int} (h:i<l.length):(l.set i x).take (i+1)=l.take i++ [x]:=by
 rw[List.take_succ_eq_append_getElem (by simpa using h),List.take_set_of_le (Nat.le_refl _)]
 simp
theorem ZlI {a b out:List Int} {i:Nat} {c c' z:Int} (hi:i<a.length) (ho:i<out.length) (hz:wv (b.take (i+1))=wv (b.take i)+4294967296^i*z) (hc:c'=c+a[i]+z)
 (h:wv (out.take i)+4294967296^i*c=wv (a.take i)+wv (b.take i)):wv ((out.set i (c' % 4294967296)).take (i+1))+4294967296^(i+1)*(c'/4294967296)=wv (a.take (i+1))+wv (b.take (i+1)):=by
 rw[Zby ho,ZcJ,Za4 hi,hz,List.length_take,Nat.min_eq_left (Nat.le_of_lt ho),Int.pow_succ]
 have e:c' % 4294967296+4294967296*(c'/4294967296)=c':=Int.emod_add_mul_ediv c' 4294967296
 have:wv [c' % 4294967296]=c' % 4294967296:=by simp[wv]
 rw[this,Int.mul_assoc,Int.add_assoc,←Int.mul_add,e,hc,Int.mul_add,Int.mul_add]
 omega
theorem Zmv {a b out:List Int} {i:Nat} {c c' z:Int} (hi:i<a.length) (ho:i<out.length) (hz:wv (b.take (i+1))=wv (b.take i)+4294967296^i*z) (hc:c'=c+a[i]-z)
 (h:wv (out.take i)+4294967296^i*c=wv (a.take i)-wv (b.take i)):wv ((out.set i (c' % 4294967296)).take (i+1))+4294967296^(i+1)*(c'/4294967296)=wv (a.take (i+1))-wv (b.take (i+1)):=by
 rw[Zby ho,ZcJ,Za4 hi,hz,List.length_take,Nat.min_eq_left (Nat.le_of_lt ho),Int.pow_succ]
 have e:c' % 4294967296+4294967296*(c'/4294967296)=c':=Int.emod_add_mul_ediv c' 4294967296
 have:wv [c' % 4294967296]=c' % 4294967296:=by simp[wv]
 rw[this,Int.mul_assoc,Int.add_assoc,←Int.mul_add,e,hc,Int.mul_sub,Int.mul_add]
 omega
theorem ZaL: ∀ {l:List Int},Wd l→0≤wv l∧wv l<4294967296^l.length
 | [],_=>by simp[wv]
 |x::l,h=>by
  have h1:=h x List.mem_cons_self
  have h2:=ZaL (l:=l) fun y hy=>h y (List.mem_cons_of_mem _ hy)
  rw[wv,List.length_cons,Int.pow_succ]
  generalize(4294967296:Int)^l.length=p at h2⊢
  omega
theorem ZnS {a b:List Int} (ha:Wd a) (hb:Wd b) {m:Nat} (hm:m<a.length) (hl:a.length=b.length) (hd:a.drop (m+1)=b.drop (m+1)) (h:a[m]<b[m]):wv a<wv b:=by
 have e1:wv a=wv (a.take m)+4294967296^m*(a[m]+4294967296*wv (a.drop (m+1))):=by
  conv=>lhs;rw[←List.take_append_drop m a]
  rw[ZcJ,List.length_take,Nat.min_eq_left (by omega),List.drop_eq_getElem_cons hm];rfl
 have e2:wv b=wv (b.take m)+4294967296^m*(b[m]+4294967296*wv (b.drop (m+1))):=by
  conv=>lhs;rw[←List.take_append_drop m b]
  rw[ZcJ,List.length_take,Nat.min_eq_left (by omega),List.drop_eq_getElem_cons (by omega)];rfl
 have b1:=ZaL (l:=a.take m) fun x hx=>ha x (List.mem_of_mem_take hx)
 have b2:=ZaL (l:=b.take m) fun x hx=>hb x (List.mem_of_mem_take hx)
 rw[List.length_take,Nat.min_eq_left (by omega)]at b1
 rw[e1,e2,hd]
 generalize 4294967296*wv (b.drop (m+1))=t
 have hp:(0:Int)<4294967296^m:=Int.pow_pos (by decide)
 have:(4294967296:Int)^m*(a[m]+t)+4294967296^m≤4294967296^m*(b[m]+t):=by
  have h1:=Int.mul_le_mul_of_nonneg_left (show a[m]+t+1≤b[m]+t by omega) (Int.le_of_lt hp)
  rw[Int.mul_add,Int.mul_one]at h1
  exact h1
 omega
def Nz (l:List Int):Prop:= ∀h:l≠ [],l.getLast h≠0
theorem Zls: ∀ {l:List Int} {i:Nat} {x:Int} (h:i<l.length),wv (l.set i x)=wv l+4294967296^i*(x-l[i])
 | [],i,x,h=>by simp at h
 |y::l,0,x,_=>by simp only[List.set_cons_zero,wv,List.getElem_cons_zero,Int.pow_zero];omega
 |y::l,i+1,x,h=>by
  have ih:=Zls (l:=l) (i:=i) (x:=x) (by simpa using h)
  simp only[List.set_cons_succ,wv,List.getElem_cons_succ,ih,Int.pow_succ]
  grind
theorem Zfd {m n b:Nat} (hb:0<b) (h:m≤n):(b:Int)^m≤(b:Int)^n:=by
 have:=Nat.pow_le_pow_right hb h
 rw[←Int.natCast_pow,←Int.natCast_pow]
 exact Int.ofNat_le.2 this
theorem Zkh: ∀ {l:List Int},Wd l→Nz l→l≠ []→0<wv l
 | [],_,_,h=>absurd rfl h
 | [x],hw,hn,_=>by
  have h1:=hw x (by simp)
  have h2:x≠0:=hn (by simp)
  simp only[wv];omega
 |x::y::l,hw,hn,_=>by
  have h1:=hw x (by simp)
  have h2:0<wv (y::l):=Zkh (fun z hz=>hw z (List.mem_cons_of_mem _ hz)) (fun h=>by
   have:=hn (by simp)
   rwa[List.getLast_cons (by simp)]at this) (by simp)
  show 0<x+4294967296*wv (y::l)
  omega
end Dv
/-
 What two library calls answer, as functions on values: a number's text, a text's number.
-/
namespace Dv
open Go Go.Am
def ZrI:Nat→Nat→List UInt8
 |0,_=> []
 |k+1,n=>match Nat.ble 10 n with
  |true=>ZrI k (n/10)++ [UInt8.ofNat (48+n % 10)]
  |false=> [UInt8.ofNat (48+n)]
theorem Zkt: ∀ (k n:Nat),1≤k→n<10^k→ZrI k n=Lib.decDigits n
 |0,_,h,_=>absurd h (by decide)
 |k+1,n,_,h=>by
  rw[ZrI]
  cases hb:Nat.ble 10 n with
  |true=>
   have hb:=Nat.le_of_ble_eq_true hb
   have hk:1≤k:=by
    rcases k with _|k
    ·simp at h;omega
    ·omega
   simp only[]
   rw[Zkt k (n/10) hk (by rw[Nat.pow_succ]at h;omega),Lib.decDigits.eq_1 n,dif_neg (by omega)]
  |false=>
   have hb:n<10:=by
    rcases Nat.lt_or_ge n 10 with h'|h'
    ·exact h'
    ·rw[Nat.ble_eq_true_of_le h']at hb;cases hb
   simp only[]
   rw[Lib.decDigits_one hb]
def Zdq:List (List PV)→Option (List Int)
 | []=>some []
 | [.int .u32 x]::r=>match decide (0≤x)&&decide (x<4294967296)with
  |true=>(Zdq r).map fun l=>x::l
  |false=>none
 |_=>none
def ZdT (m:Bool) (l:List Int):List UInt8:=match l.isEmpty with
 |true=> [48]
 |false=>match Nat.ble l.length 210 with
  |true=>(match m with|true=> [45]|false=> [])++ZrI 2100 (wv l).toNat
  |false=> []
def ZcX (l:List Int):Bool:=match l.isEmpty with
 |true=>true
 |false=>match Nat.ble l.length 210 with
  |true=>Nat.ble (ZrI 2100 (wv l).toNat).length 2000
  |false=>false
def textG:List PV→Option PV
 | [.agg [.bool m, .nils]]=>some (.tup [.str ⟨(ZdT m []).toArray⟩, .bool (ZcX [])])
 | [.agg [.bool m, .lst es]]=>(Zdq es).map fun l=> .tup [.str ⟨(ZdT m l).toArray⟩, .bool (ZcX l)]
 |_=>none
def Zsu (s:List UInt8):Bool:=s.all fun c=>Nat.ble 48 c.toNat&&Nat.ble c.toNat 57
def parseG:List PV→Option PV
 | [.str s, .int .i64 b, .int .i64 z]=>match decide (b=10)&&decide (z=32)&&(Zsu s.data.toList&&Nat.ble 1 s.data.toList.length&&Nat.ble s.data.toList.length 9)with
  |true=>some (.tup [.int .u64 (dec s.data.toList:Nat), .nili])
  |false=>none
 |_=>none
end Dv
/-
 The place of a byte in a text.
-/
namespace Dv
open Go Go.Am Go.Lib
def ZbB:List UInt8→UInt8→Nat→Int
 | [],_,_=> -1
 |b::l,c,i=>match Nat.beq b.toNat c.toNat with
  |true=>(i:Int)
  |false=>ZbB l c (i+1)
theorem ZfH: ∀ (l:List UInt8) (c:UInt8),-1≤indexByte l c
 | [],_=>Int.le_refl _
 |b::l,c=>by
  have:=ZfH l c
  rw[indexByte]
  split
  ·decide
  ·split
   ·decide
   ·omega
theorem ZnZ: ∀ (l:List UInt8) (c:UInt8) (i:Nat),ZbB l c i=if indexByte l c= -1 then-1 else i+indexByte l c
 | [],_,_=>rfl
 |b::l,c,i=>by
  have h1:=ZfH l c
  have ih:=ZnZ l c (i+1)
  have hb:Nat.beq b.toNat c.toNat=(b==c):=by
   rw[Bool.eq_iff_iff,Nat.beq_eq,beq_iff_eq]
   exact UInt8.toNat_inj
  rw[ZbB,indexByte,hb]
  cases hbc:b==c with
  |true=>simp
  |false=>
   simp only[Bool.false_eq_true,if_false,ih]
   by_cases h:indexByte l c= -1
   ·simp[h]
   ·rw[if_neg h]
    have h2:(indexByte l c== -1)=false:=by simpa using h
    rw[h2]
    simp only[Bool.false_eq_true,if_false]
    rw[if_neg (by omega)]
    omega
theorem ZsS (l:List UInt8) (c:UInt8):ZbB l c 0=indexByte l c:=by
 rw[ZnZ]
 split
 ·rename_i h;exact h.symm
 ·omega
def indexG:List PV→Option PV
 | [.str s, .str t]=>match t.data.toList with
  | [c]=>some (.int .i64 (ZbB s.data.toList c 0))
  |_=>none
 |_=>none
def Zdl (s:List UInt8) (c:UInt8):List UInt8×List UInt8×Bool:=match decide (0≤ZbB s c 0)with
 |true=>(s.take (ZbB s c 0).toNat,s.drop ((ZbB s c 0).toNat+1),true)
 |false=>(s,[],false)
end Dv
/-
 The hints for this seat's program; the static facts of its text.
-/
namespace Go.Proofs.YtdnodlkdndfplaaGreatDoor
theorem Zmr {P:Program} {w w':World} {name:String} {k:IntKind} {zs:List Int} {g:Nat} (hg:P.globalNamed name=some g) (hb:w'.heap[g]? =w.heap[g]?) (h:Lib.TabIs P w name k zs):Lib.TabIs P w' name k zs:=by
 unfold Lib.TabIs World.var? at*
 simp only[hg,Option.bind_some]at h⊢
 rw[hb]
 exact h
def Zdu:String:= "internal/strconv.uint64pow10"
noncomputable instance natLaid:Am.Laid where
 ok S w:= ∃g,Tryz.prog.globalNamed Zdu=some g∧S g∧Lib.TabIs Tryz.prog w Zdu .u64 Lib.pow10Tab
 mono:=by
  rintro S w S' w' h ⟨g,h1,h2,h3⟩
  exact⟨g,h1,(h g h2).1,Zmr h1 (h g h2).2 h3⟩
noncomputable def hOk:List Nat:=
 [3,4,5,6,7,8,9,10,11,12,13,14,15,16,17,18,19,20,26,28,29,30,31,32,33,35,36,37,38,39,40,41,42,43,44,45,46,47,48,49,50,51,52,53,54,55,56,57,58,59,60,61,62,66,67,68,74,76,78,79,80,81,82,83,84,85,86,87,90,91,93,94,95,96,97,98,99,100,101,102,103,104,105,106,107,108,109,110,111,112,113,114,115,117,119,120,121,123,124,125,127,128,129,130,131,132,133,134,135,137,138,139,140,141,142,143,144,145,146,147,148,149,151,152,153,154,155,156,160,161,162,163,164,165,166,167,170,173,174,175,176,182,183,184,185,191,194,198,201,203,204]
noncomputable def Zuw:List Nat:=
 [127,128,129,130,131,132,134,160,161,162,173]
noncomputable def Zuy:List Nat:=
 [10,11,12,32,36,37,38,39,46,47,49,50,51,68,79,83,84,85,94,95,96,102,103,104,109,110,120,121,124,125,135,138,139,140,141,142,144,147,156,164,165,166,170,182,183,184,185]
noncomputable def ZuA:List Nat:=
 [52,78,119,154,175]
noncomputable def Ztf:List (Nat×List (Nat×List Nat)):=
 [(38,[(14,[0,1])]),(46,[(8,[0,1,2,3,4])]),(52,[(9,[0])]),(87,[(20,[2,3,4,5])]),(95,[(8,[0,1])]),(128,[(17,[2,3,4,5,6,7,8,9,10,11,12,13,14,15,16,17,18,19,20,21,22,23])]),(140,[(5,[1])]),(154,[(9,[0])])]
noncomputable def Zud:List (Nat×List (Nat×List Nat)):=
 [(87,[(20,[0,1,3,4,5,6,2,7,8])]),(128,[(17,[0,1,3,4,5,6,7,8,9,10,11,12,14,15,17,18,19,20,21,22,23,24,25,26,2,13,16,27,28,29])])]
noncomputable def Zrj:Am.Hints:=Am.withPerm (Am.mkHints hOk Zuw Zuy ZuA [] [] Ztf []) Zud
set_option maxRecDepth 100000 in
theorem Zom:Am.Static Tryz.prog Zrj:=Am.static_ofP Tryz.checked.mixed (by decide+kernel)
noncomputable def Zl6 (p:FuncId→Option (List Am.PV→Option Am.PV)):Am.Hints:=Am.withPrims Zrj p
def prims:FuncId→Option (List Am.PV→Option Am.PV)
 |126=>some Dv.textG
 |150=>some Dv.parseG
 |168=>some Dv.indexG
 |_=>none
noncomputable def Zau:Am.Hints:=Zl6 prims
end Go.Proofs.YtdnodlkdndfplaaGreatDoor
