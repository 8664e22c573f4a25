/-
 The reference: NatMul.
-/
import Derived.Test.YtdnodlkdndfplaaGreatDoorR2
set_option linter.constructorNameAsVariable false
set_option linter.unusedSimpArgs false
set_option linter.unusedVariables false
namespace Go.Proofs.YtdnodlkdndfplaaGreatDoor
open Go.Am Go.Tx Dv Go.Lib
set_option maxRecDepth 100000
def N90 (l:List Int):Prop:= ∀d∈l,0≤d∧d≤90
def ZBp (a b:List UInt8) (i:Nat) (x:Int) (t:Nat×List Int):TM:=[(0, .v .s a),(1, .v .s b),(5, .ref 0 0 (a.length+b.length+1) none),(6, .v (.i .i64) (i:Int)),(7, .v (.i .i64) x),(18, .v (.i .i64) (a.length:Int)),(19, .v (.i .i64) (i:Int)),(26, .v (.i .i64) (b.length:Int)),(27, .v (.i .i64) (t.1:Int))]
set_option maxHeartbeats 8000000 in
theorem ZwF (a b:List UInt8) (i:Nat) (x:Int) (out:List Int) (hdb:Dg b) (hla:a.length≤300000) (hlb:b.length≤300000) (hi:i<a.length) (hx0:0≤x) (hx9:x≤9) (hol:out.length=a.length+b.length+1) (ho9:D9 out):
 LoopOK Tryz.prog Zan 0 ⟨58,0,80⟩ (Zbz Tryz.f58 7) (ZBp a b i x (0,out)) [.row (.i .i64) out true]
 (fun e tm hp=>e= .exit 2∧ ∃ (o:List Int) (X:SV),(o.length=a.length+b.length+1∧N90 o∧dv o=dv out+10^i*(x*(dec b:Int)))∧tm=(28,X)::ZBp a b i x (b.length,o)∧hp=[.row (.i .i64) o true]):=by
 refine Zat Zaa rfl (ZBp a b i x) (fun t=> [.row (.i .i64) t.2 true])
  (fun t=>t.1≤b.length∧t.2.length=a.length+b.length+1∧N90 t.2∧t.2.drop (i+t.1)=out.drop (i+t.1)∧dv t.2=dv out+10^i*(x*((dec b % 10^t.1:Nat):Int))) (fun t=>b.length-t.1) ?_ (0,out) ?_ ZaU
 ·rintro⟨k,o⟩ ⟨hk,hl,h90,hd,hval⟩
  simp only at hk hl h90 hd hval
  refine And.intro (fun h=> ?_) (fun h=> ?_)
  ·have hlt:k<b.length:=by have h':(k:Int)<(b.length:Int):=of_decide_eq_true h;omega
   have hj:i+k<o.length:=by omega
   have hj2:i+k<out.length:=by omega
   have he:o[i+k]=out[i+k]:=by
    have:(o.drop (i+k))[0]? =(out.drop (i+k))[0]? :=by rw[hd]
    rw[List.getElem?_drop,List.getElem?_drop,Nat.add_zero,List.getElem?_eq_getElem hj,List.getElem?_eq_getElem hj2]at this
    exact Option.some.inj this
   have hz9:=ho9 _ (List.getElem_mem hj2)
   rw[←he]at hz9
   obtain⟨z,ez⟩: ∃z,o[i+k]=z:=⟨_,rfl⟩
   rw[ez]at hz9
   have eik:IntKind.i64.wrap ((i:Int)+(k:Int))=((i+k:Nat):Int):=Zah (by omega) (by omega)
   have bi:(0:Int)≤IntKind.i64.wrap ((i:Int)+(k:Int))∧IntKind.i64.wrap ((i:Int)+(k:Int))<((a.length+b.length+1:Nat):Int):=by rw[eik];omega
   have gz:o[0+(IntKind.i64.wrap ((i:Int)+(k:Int))).toNat]? =some z:=by rw[eik,Nat.zero_add,Int.toNat_natCast,List.getElem?_eq_getElem hj,ez]
   refine And.intro bi ?_
   refine Exists.intro z (And.intro gz ?_)
   refine(Zdv b k hdb (by omega) (by omega)).mono ?_
   rintro _ rfl
   obtain⟨y,ey⟩: ∃d:Nat,dec b/10^k % 10=d:=⟨_,rfl⟩
   have hmb:=Zcp (dec b) k
   rw[ey]at hmb
   rw[ey]
   have hy:y<10:=by rw[←ey];exact Nat.mod_lt _ (by decide)
   have p0:0≤x*(y:Int):=Int.mul_nonneg hx0 (by omega)
   have p1:x*(y:Int)≤9*9:=Int.mul_le_mul hx9 (by omega) (by omega) (by decide)
   have ev:IntKind.i64.wrap (z+IntKind.i64.wrap (x*(y:Int)))=z+x*y:=by rw[Zah (x:=x*(y:Int)) (by omega) (by omega),Zah (by omega) (by omega)]
   refine And.intro bi ?_
   refine Exists.intro z (And.intro gz ?_)
   have er:o.set (i+k) (z+x*y)=o.set (0+(IntKind.i64.wrap ((i:Int)+(k:Int))).toNat) (IntKind.i64.wrap (z+IntKind.i64.wrap (x*(y:Int)))):=by rw[ev,eik,Nat.zero_add,Int.toNat_natCast]
   have wi:IntKind.i64.wrap ((k:Int)+1)=((k+1:Nat):Int):=Zah (by omega) (by omega)
   refine⟨(k+1,o.set (i+k) (z+x*y)),⟨hlt,by show(o.set _ _).length=_;rw[List.length_set];exact hl, ?_, ?_, ?_⟩,by show b.length-(k+1)<b.length-k;omega, ?_⟩
   ·intro d hd
    rcases List.mem_or_eq_of_mem_set hd with hd|rfl
    ·exact h90 d hd
    ·omega
   ·show(o.set _ _).drop (i+(k+1))=_
    rw[List.drop_set_of_lt (by omega),←Nat.add_assoc,←List.drop_drop,hd,List.drop_drop]
   ·show dv (o.set (i+k) (z+x*y))=dv out+10^i*(x*((dec b % 10^(k+1):Nat):Int))
    rw[Zqv hj,ez,hval,hmb,Int.natCast_add,Int.natCast_mul,Int.natCast_pow,Int.pow_add]
    have e10:((10:Nat):Int)=10:=rfl
    rw[e10]
    generalize(10:Int)^i=p
    generalize(10:Int)^k=q
    grind
   ·refine Zal rfl rfl ?_ ?_
    ·exact⟨rfl,rfl,⟨rfl,rfl,rfl⟩,rfl,rfl,rfl,rfl,rfl,wi.symm,trivial⟩
    ·exact⟨⟨er,fun _=>rfl⟩,trivial⟩
  ·have he:k=b.length:=by have h': ¬ (k:Int)<(b.length:Int):=of_decide_eq_false h;omega
   subst he
   rw[Nat.mod_eq_of_lt (ZbJ hdb)]at hval
   exact⟨rfl,o,_,⟨hl,h90,hval⟩,rfl,rfl⟩
 ·exact⟨Nat.zero_le _,hol,fun d hd=>by have:=ho9 d hd;omega,rfl,by simp[Nat.mod_one]⟩
def ZBV (a b:List UInt8) (i:Nat) (t:Nat×List Int):TM:=[(0, .v .s a),(1, .v .s b),(5, .ref 0 0 (a.length+b.length+1) none),(18, .v (.i .i64) (a.length:Int)),(19, .v (.i .i64) (i:Int)),(49, .v (.i .i64) ((a.length+b.length:Nat):Int)),(50, .v (.i .i64) (t.1:Int))]
set_option maxHeartbeats 8000000 in
theorem Zvr (a b:List UInt8) (i:Nat) (out:List Int) (hla:a.length≤300000) (hlb:b.length≤300000) (hol:out.length=a.length+b.length+1) (h90:N90 out) (hW:dv out<10^(a.length+b.length)):
 LoopOK Tryz.prog Zan 0 ⟨58,0,80⟩ (Zbz Tryz.f58 12) (ZBV a b i (0,out)) [.row (.i .i64) out true]
 (fun e tm hp=>e= .exit 4∧ ∃ (o:List Int) (X:SV),(o.length=a.length+b.length+1∧D9 o∧dv o=dv out)∧tm=(51,X)::ZBV a b i (a.length+b.length,o)∧hp=[.row (.i .i64) o true]):=by
 obtain⟨L,hL⟩: ∃L,a.length+b.length=L:=⟨_,rfl⟩
 have hLl:L≤600000:=by omega
 refine Zat Zaa rfl (ZBV a b i) (fun t=> [.row (.i .i64) t.2 true])
  (fun t=>t.1≤L∧t.2.length=L+1∧D9 (t.2.take t.1)∧(∃x r,t.2.drop t.1=x::r∧0≤x∧x≤100∧N90 r)∧dv t.2=dv out) (fun t=>L-t.1) ?_ (0,out) ?_ ZaU
 ·rintro⟨k,o⟩ ⟨hk,hl,h9,⟨x,r,hdr,hx0,hx1,hr⟩,hval⟩
  simp only at hk hl h9 hdr hval
  have hkl:k<o.length:=by omega
  have hdc:=List.drop_eq_getElem_cons hkl
  rw[hdr]at hdc
  have ex:o[k]=x:=(List.cons.inj hdc).1.symm
  have er:o.drop (k+1)=r:=(List.cons.inj hdc).2.symm
  refine And.intro (fun h=> ?_) (fun h=> ?_)
  ·have hlt:k<L:=by have h':(k:Int)<((a.length+b.length:Nat):Int):=of_decide_eq_true h;omega
   have hk1:k+1<o.length:=by omega
   obtain⟨y,r',hyr⟩: ∃y r',r=y::r':=⟨_,_,(er.symm.trans (List.drop_eq_getElem_cons hk1))⟩
   have hdc1:=List.drop_eq_getElem_cons hk1
   rw[er,hyr]at hdc1
   have ey:o[k+1]=y:=(List.cons.inj hdc1).1.symm
   have er':o.drop (k+1+1)=r':=(List.cons.inj hdc1).2.symm
   have hy:=hr y (by rw[hyr];exact List.mem_cons_self)
   have hr':N90 r':=fun d hd=>hr d (by rw[hyr];exact List.mem_cons_of_mem _ hd)
   have bk:(0:Int)≤(k:Int)∧(k:Int)<((a.length+b.length+1:Nat):Int):=by omega
   have ek:IntKind.i64.wrap ((k:Int)+1)=((k+1:Nat):Int):=Zah (by omega) (by omega)
   have bk1:(0:Int)≤IntKind.i64.wrap ((k:Int)+1)∧IntKind.i64.wrap ((k:Int)+1)<((a.length+b.length+1:Nat):Int):=by rw[ek];omega
   have gx: ∀w:List Int,w[k]? =some x→w[0+(k:Int).toNat]? =some x:=fun w hw=>by rw[Nat.zero_add,Int.toNat_natCast];exact hw
   have gy: ∀w:List Int,w[k+1]? =some y→w[0+(IntKind.i64.wrap ((k:Int)+1)).toNat]? =some y:=fun w hw=>by rw[ek,Nat.zero_add,Int.toNat_natCast];exact hw
   have qx:o[k]? =some x:=by rw[List.getElem?_eq_getElem hkl,ex]
   have qy:o[k+1]? =some y:=by rw[List.getElem?_eq_getElem hk1,ey]
   refine And.intro bk ?_
   refine Exists.intro x (And.intro (gx o qx) ?_)
   refine And.intro (fun h2=> ?_) (fun h2=> ?_)
   ·have h2':(9:Int)<x:=of_decide_eq_true h2
    have e1:IntKind.i64.wrap (y+IntKind.i64.wrap (x.tdiv 10))=y+x/10:=by rw[Int.tdiv_eq_ediv_of_nonneg hx0,Zah (x:=x/10) (by omega) (by omega),Zah (by omega) (by omega)]
    have e2:x.tmod 10=x % 10:=Int.tmod_eq_emod_of_nonneg hx0
    refine And.intro bk1 ?_
    refine Exists.intro y (And.intro (gy o qy) ?_)
    refine And.intro bk ?_
    refine Exists.intro x (And.intro (gx o qx) ?_)
    refine And.intro (by decide) ?_
    refine And.intro bk1 ?_
    refine Exists.intro y (And.intro (gy o qy) ?_)
    have eo1:o.set (0+(IntKind.i64.wrap ((k:Int)+1)).toNat) (IntKind.i64.wrap (y+IntKind.i64.wrap (x.tdiv 10)))=o.set (k+1) (y+x/10):=by rw[e1,ek,Nat.zero_add,Int.toNat_natCast]
    have qx1:(o.set (0+(IntKind.i64.wrap ((k:Int)+1)).toNat) (IntKind.i64.wrap (y+IntKind.i64.wrap (x.tdiv 10))))[k]? =some x:=by rw[eo1,List.getElem?_set_ne (by omega)];exact qx
    refine And.intro bk ?_
    refine Exists.intro x (And.intro (gx _ qx1) ?_)
    refine And.intro (by decide) ?_
    refine And.intro bk ?_
    refine Exists.intro x (And.intro (gx _ qx1) ?_)
    have eo:(o.set (k+1) (y+x/10)).set k (x % 10)=(o.set (0+(IntKind.i64.wrap ((k:Int)+1)).toNat) (IntKind.i64.wrap (y+IntKind.i64.wrap (x.tdiv 10)))).set (0+(k:Int).toNat) (x.tmod 10):=by rw[eo1,e2,Nat.zero_add,Int.toNat_natCast]
    have hk2:k<(o.set (k+1) (y+x/10)).length:=by rw[List.length_set];exact hkl
    refine⟨(k+1,(o.set (k+1) (y+x/10)).set k (x % 10)),⟨hlt,by show((o.set _ _).set _ _).length=_;rw[List.length_set,List.length_set];exact hl, ?_,⟨y+x/10,r', ?_,by omega,by omega,hr'⟩, ?_⟩,by show L-(k+1)<L-k;omega, ?_⟩
    ·show D9 (((o.set (k+1) (y+x/10)).set k (x % 10)).take (k+1))
     intro d hd
     rw[List.take_succ_eq_append_getElem (by rw[List.length_set];exact hk2),List.take_set_of_le (Nat.le_refl _),List.take_set_of_le (by omega),List.getElem_set_self]at hd
     rcases List.mem_append.1 hd with hd|hd
     ·exact h9 d hd
     ·rw[List.mem_singleton.1 hd];omega
    ·show((o.set (k+1) (y+x/10)).set k (x % 10)).drop (k+1)=_
     rw[List.drop_set_of_lt (by omega),List.drop_eq_getElem_cons (by rw[List.length_set];exact hk1),List.getElem_set_self,List.drop_set_of_lt (by omega),er']
    ·show dv ((o.set (k+1) (y+x/10)).set k (x % 10))=dv out
     rw[Zqv hk2,Zqv hk1,ey,List.getElem_set_ne (by omega),ex,←hval,Int.pow_succ]
     have e3:=Int.emod_add_mul_ediv x 10
     generalize(10:Int)^k=p
     have e4:x % 10=x-10*(x/10):=by omega
     rw[e4]
     grind
    ·refine Zal rfl rfl ?_ ?_
     ·exact⟨rfl,rfl,⟨rfl,rfl,rfl⟩,rfl,rfl,rfl,ek.symm,trivial⟩
     ·exact⟨⟨eo,fun _=>rfl⟩,trivial⟩
   ·have h2': ¬ (9:Int)<x:=of_decide_eq_false h2
    refine⟨(k+1,o),⟨hlt,hl, ?_,⟨y,r', ?_,by omega,by omega,hr'⟩,hval⟩,by show L-(k+1)<L-k;omega, ?_⟩
    ·show D9 (o.take (k+1))
     intro d hd
     rw[List.take_succ_eq_append_getElem hkl,ex]at hd
     rcases List.mem_append.1 hd with hd|hd
     ·exact h9 d hd
     ·rw[List.mem_singleton.1 hd];omega
    ·show o.drop (k+1)=_
     rw[er,hyr]
    ·refine Zal rfl rfl ?_ ?_
     ·exact⟨rfl,rfl,⟨rfl,rfl,rfl⟩,rfl,rfl,rfl,ek.symm,trivial⟩
     ·exact⟨⟨rfl,fun _=>rfl⟩,trivial⟩
  ·have he:k=L:=by have h': ¬ (k:Int)<((a.length+b.length:Nat):Int):=of_decide_eq_false h;omega
   subst he
   have h1:=Zyx hkl
   rw[List.take_of_length_le (by omega),ex]at h1
   have h2:=ZlX (l:=o.take k) fun d hd=>(h9 d hd).1
   have hx:x=0:=by
    rcases Int.lt_or_le x 1 with h|h
    ·omega
    ·have h3:=Int.mul_le_mul_of_nonneg_left h (Int.le_of_lt (show(0:Int)<10^k from Int.pow_pos (by decide)))
     rw[hL]at hW
     omega
   refine⟨rfl,o, .v .b (decide ((k:Int)<((a.length+b.length:Nat):Int))),⟨by omega, ?_,hval⟩, ?_,rfl⟩
   ·intro d hd
    rw[←List.take_append_drop k o,hdr]at hd
    rcases List.mem_append.1 hd with hd|hd
    ·exact h9 d hd
    ·have hr0:r=[]:=by
      have:(o.drop k).length=1:=by rw[List.length_drop];omega
      rw[hdr]at this
      exact List.length_eq_zero_iff.1 (by simpa using this)
     rw[hr0,List.mem_singleton]at hd
     omega
   ·rw[←hL]
 ·refine⟨Nat.zero_le _,by show out.length=L+1;omega,fun d hd=>by simp at hd, ?_,rfl⟩
  cases out with
  |nil=>simp at hol
  |cons x r=>
   have h1:=h90 x List.mem_cons_self
   exact⟨x,r,rfl,h1.1,by omega,fun d hd=>h90 d (List.mem_cons_of_mem _ hd)⟩
def ZBi (a b:List UInt8) (t:Nat×List Int):TM:=[(0, .v .s a),(1, .v .s b),(5, .ref 0 0 (a.length+b.length+1) none),(18, .v (.i .i64) (a.length:Int)),(19, .v (.i .i64) (t.1:Int))]
set_option maxHeartbeats 8000000 in
theorem ZuY (a b:List UInt8) (hda:Dg a) (hdb:Dg b) (hla:a.length≤300000) (hlb:b.length≤300000):PureOK Tryz.prog Zan 58 [.v .s a, .v .s b] (fun V=>V= .v .s (decDigits (dec a*dec b))):=by
 refine Zac Zaa Tryz.func58 ?_
 have w1:IntKind.i64.wrap (IntKind.i64.wrap ((a.length:Int)+(b.length:Int))+1)=((a.length+b.length+1:Nat):Int):=by rw[Zah (x:=(a.length:Int)+(b.length:Int)) (by omega) (by omega),Zah (by omega) (by omega)];omega
 have w2: ∀x:Int,x=((a.length+b.length+1:Nat):Int)→0≤x∧x≤x∧(8:Int)*x≤281474976710656∧x<9223372036854775808:=fun x hx=>by omega
 have w3:a.length+b.length+1=(IntKind.i64.wrap (IntKind.i64.wrap ((a.length:Int)+(b.length:Int))+1)).toNat:=by rw[w1];omega
 refine And.intro (w2 _ w1) ?_
 refine Zat Zaa rfl (ZBi a b) (fun t=> [.row (.i .i64) t.2 true])
  (fun t=>t.1≤a.length∧t.2.length=a.length+b.length+1∧D9 t.2∧dv t.2=((dec a % 10^t.1*dec b:Nat):Int)) (fun t=>a.length-t.1) ?_ (0,List.replicate (a.length+b.length+1) 0) ?_ ?_
 ·rintro⟨i,out⟩ ⟨hi,hl,h9,hval⟩
  simp only at hi hl h9 hval
  refine And.intro (fun h=> ?_) (fun h=> ?_)
  ·have hlt:i<a.length:=by have h':(i:Int)<(a.length:Int):=of_decide_eq_true h;omega
   refine(Zdv a i hda (by omega) (by omega)).mono ?_
   rintro _ rfl
   obtain⟨x,ex⟩: ∃d:Nat,dec a/10^i % 10=d:=⟨_,rfl⟩
   have hma:=Zcp (dec a) i
   rw[ex]at hma
   rw[ex]
   have hx:x<10:=by rw[←ex];exact Nat.mod_lt _ (by decide)
   refine((ZwF a b i (x:Int) out hdb hla hlb hlt (by omega) (by omega) hl h9).ent ?_).mono ?_
   ·refine Zal rfl rfl ?_ ?_
    ·exact⟨rfl,rfl,⟨rfl,rfl,rfl⟩,rfl,rfl,rfl,rfl,rfl,rfl,trivial⟩
    ·exact⟨⟨rfl,fun _=>rfl⟩,trivial⟩
   rintro _ _ _ ⟨rfl,o1,X1,⟨l1,n1,v1⟩,rfl,rfl⟩
   have hv1:dv o1=((dec a % 10^(i+1)*dec b:Nat):Int):=by
    rw[v1,hval,hma,Nat.add_mul,Int.natCast_add,Int.natCast_mul,Int.natCast_mul,Int.natCast_mul,Int.natCast_pow]
    have e10:((10:Nat):Int)=10:=rfl
    rw[e10,Int.mul_assoc]
   have hW:dv o1<10^(a.length+b.length):=by
    have h1:dec a % 10^(i+1)<10^a.length:=Nat.lt_of_lt_of_le (Nat.mod_lt _ (Nat.pow_pos (by decide))) (Nat.pow_le_pow_right (by decide) (by omega))
    have h2:=Nat.mul_lt_mul'' h1 (ZbJ hdb)
    rw[←Nat.pow_add]at h2
    have h3:=Int.ofNat_lt.2 h2
    rw[Int.natCast_pow]at h3
    rw[hv1]
    exact h3
   have e47:IntKind.i64.wrap (((a.length+b.length+1:Nat):Int)-1)=((a.length+b.length:Nat):Int):=by rw[Zah (by omega) (by omega)];omega
   have bs:(0:Int)≤IntKind.i64.wrap (((a.length+b.length+1:Nat):Int)-1)∧IntKind.i64.wrap (((a.length+b.length+1:Nat):Int)-1)≤((a.length+b.length+1:Nat):Int):=by rw[e47];omega
   refine And.intro bs ?_
   have e49:((a.length+b.length:Nat):Int)=(((IntKind.i64.wrap (((a.length+b.length+1:Nat):Int)-1)).toNat-0:Nat):Int):=by rw[e47,Int.toNat_natCast];omega
   refine((Zvr a b i o1 hla hlb l1 n1 hW).ent ?_).mono ?_
   ·refine Zal rfl rfl ?_ ?_
    ·exact⟨rfl,rfl,⟨rfl,rfl,rfl⟩,rfl,rfl,e49,rfl,trivial⟩
    ·exact⟨⟨rfl,fun _=>rfl⟩,trivial⟩
   rintro _ _ _ ⟨rfl,o2,X2,⟨l2,n2,v2⟩,rfl,rfl⟩
   have wi:IntKind.i64.wrap ((i:Int)+1)=((i+1:Nat):Int):=Zah (by omega) (by omega)
   refine⟨(i+1,o2),⟨hlt,l2,n2,by show dv o2=_;rw[v2,hv1]⟩,by show a.length-(i+1)<a.length-i;omega, ?_⟩
   refine Zal rfl rfl ?_ ?_
   ·exact⟨rfl,rfl,⟨rfl,rfl,rfl⟩,rfl,wi.symm,trivial⟩
   ·exact⟨⟨rfl,fun _=>rfl⟩,trivial⟩
  ·have he:i=a.length:=by have h': ¬ (i:Int)<(a.length:Int):=of_decide_eq_false h;omega
   subst he
   rw[Nat.mod_eq_of_lt (ZbJ hda)]at hval
   refine And.intro (by show 0+(a.length+b.length+1)≤out.length;omega) ?_
   have hs:sub out 0 (a.length+b.length+1)=out:=by rw[sub,List.drop_zero,List.take_of_length_le (by omega)]
   have hr:=ZoJ out h9 (by omega)
   rw[←hs]at hr
   refine hr.mono ?_
   rintro _ rfl
   rw[hs,hval,Int.toNat_natCast]
   rfl
 ·refine⟨Nat.zero_le _,by simp,fun d hd=> ?_, ?_⟩
  ·have:=List.eq_of_mem_replicate hd
   rw[this];decide
  ·have: ∀k,dv (List.replicate k 0)=0:=by
    intro k
    induction k with
    |zero=>rfl
    |succ k ih=>rw[List.replicate_succ,dv,ih];rfl
   show dv (List.replicate _ 0)=_
   rw[this]
   simp[Nat.mod_one]
 ·refine Zal rfl rfl ?_ ?_
  ·exact⟨rfl,rfl,⟨rfl,w3,w3⟩,rfl,rfl,trivial⟩
  ·exact⟨⟨(by show List.replicate (a.length+b.length+1) (0:Int)=List.replicate _ 0;rw[←w3]),fun _=>rfl⟩,trivial⟩
end Go.Proofs.YtdnodlkdndfplaaGreatDoor
