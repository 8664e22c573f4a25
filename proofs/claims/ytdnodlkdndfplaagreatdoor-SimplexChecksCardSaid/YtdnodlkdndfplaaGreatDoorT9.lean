/-
 Integers of any size: Mul.
-/
import Derived.Test.YtdnodlkdndfplaaGreatDoorT7
set_option linter.constructorNameAsVariable false
set_option linter.unusedSimpArgs false
set_option linter.unusedVariables false
namespace Go.Proofs.YtdnodlkdndfplaaGreatDoor
open Go.Am Go.Tx Dv
set_option maxRecDepth 100000
theorem Zqo {a out ZbA:List Int} {i k:Nat} {c x y v b0:Int} (ho:i+k<out.length) (hd:out.drop (i+k)=ZbA.drop (i+k)) (hv:v=c+out[i+k]+x*y)
 (h:wv (out.take (i+k))+4294967296^(i+k)*c=wv (ZbA.take (i+k))+4294967296^i*(x*b0)):
 wv ((out.set (i+k) (v % 4294967296)).take (i+k+1))+4294967296^(i+k+1)*(v/4294967296)=wv (ZbA.take (i+k+1))+4294967296^i*(x*(b0+4294967296^k*y)):=by
 have hl:out.length=ZbA.length∨True:= .inr trivial
 have h0:ZbA[i+k]? =some out[i+k]:=by
  have:(out.drop (i+k))[0]? =(ZbA.drop (i+k))[0]? :=by rw[hd]
  rw[List.getElem?_drop,List.getElem?_drop,Nat.add_zero,List.getElem?_eq_getElem ho]at this
  exact this.symm
 obtain⟨ho0,h0⟩:=List.getElem?_eq_some_iff.1 h0
 rw[Zby ho,ZcJ,Za4 ho0,h0,List.length_take,Nat.min_eq_left (Nat.le_of_lt ho),Int.pow_succ]
 have e:v % 4294967296+4294967296*(v/4294967296)=v:=Int.emod_add_mul_ediv v 4294967296
 have e1:wv [v % 4294967296]=v % 4294967296:=by simp[wv]
 have e2:(4294967296:Int)^(i+k)*(v % 4294967296)+4294967296^(i+k)*4294967296*(v/4294967296)=4294967296^(i+k)*v:=by
  rw[Int.mul_assoc,←Int.mul_add,e]
 have e3:(4294967296:Int)^(i+k)=4294967296^i*4294967296^k:=Int.pow_add ..
 rw[e1,Int.add_assoc,e2,hv]
 generalize(4294967296:Int)^i=p at*
 generalize(4294967296:Int)^k=q at*
 rw[e3]at h⊢
 grind
def ZqH (A B:SV) (out:List Int):List SM:=[.cell (Za2 A) true, .cell (Za2 B) true, .cell [.v .b false, .nils] true, .row (.i .u32) out true]
def ZtW (a b:List Int) (n i:Nat) (x:Int) (s:Nat×Int×List Int):TM:=
 [(2, .ptr 0 0 0),(3, .ptr 1 0 0),(4, .ptr 2 0 0),(5, .ref 3 0 n none),(6, .v (.i .i64) (i:Int)),(7, .v (.i .u32) x),(8, .v (.i .u64) s.2.1),(20,ZaX a),(21, .v (.i .i64) (a.length:Int)),(22, .v (.i .i64) (i:Int)),(28,ZaX b),(29, .v (.i .i64) (b.length:Int)),(30, .v (.i .i64) (s.1:Int))]
set_option maxHeartbeats 4000000 in
theorem Zt5 (A B:Int) (a b ZbA:List Int) (n i:Nat) (x:Int) (hb:Wd b) (hx:0≤x∧x<4294967296) (hn:ZbA.length=n) (hi:i+b.length≤n) (hnl:n≤2000000) (hw0:Wd ZbA):
 LoopOK Tryz.prog Zau 0 ⟨103,0,77⟩ (ZeH Tryz.f103 7) (ZtW a b n i x (0,0,ZbA)) (ZqH (IS A) (IS B) ZbA)
 (fun e tm hp=>e= .exit 2∧ ∃c out X,0≤c∧c<4294967296∧out.length=n∧Wd out∧wv (out.take (i+b.length))+4294967296^(i+b.length)*c=wv (ZbA.take (i+b.length))+4294967296^i*(x*wv b)∧tm=(31,X)::ZtW a b n i x (b.length,c,out)∧hp=ZqH (IS A) (IS B) out):=by
 refine ZaC Zao rfl (ZtW a b n i x) (fun s=>ZqH (IS A) (IS B) s.2.2)
  (fun s=>s.1≤b.length∧0≤s.2.1∧s.2.1<4294967296∧s.2.2.length=n∧Wd s.2.2∧s.2.2.drop (i+s.1)=ZbA.drop (i+s.1)∧wv (s.2.2.take (i+s.1))+4294967296^(i+s.1)*s.2.1=wv (ZbA.take (i+s.1))+4294967296^i*(x*wv (b.take s.1))) (fun s=>b.length-s.1) ?_ (0,0,ZbA) ?_ Zcv
 ·rintro⟨k,c,out⟩ ⟨hk,hc0,hc1,hlen,hwd,hd,hval⟩
  simp only at hk hc0 hc1 hlen hwd hd hval
  refine And.intro (fun h=> ?_) (fun h=> ?_)
  ·have hlt:k<b.length:=by have:=of_decide_eq_true h;simp only at this;omega
   have hbk:=hb _ (List.getElem_mem hlt)
   have ho:i+k<out.length:=by omega
   have hoi:=hwd _ (List.getElem_mem ho)
   have eik:IntKind.i64.wrap ((i:Int)+(k:Int))=((i+k:Nat):Int):=Zan (by omega) (by omega)
   have et:(IntKind.i64.wrap ((i:Int)+(k:Int))).toNat=i+k:=by rw[eik];omega
   have e0:(0:Int)≤IntKind.i64.wrap ((i:Int)+(k:Int)):=by rw[eik];omega
   have e1:IntKind.i64.wrap ((i:Int)+(k:Int))<(n:Int):=by rw[eik];omega
   have hxy0:0≤x*b[k]:=Int.mul_nonneg hx.1 hbk.1
   have hxy1:x*b[k]≤4294967295*4294967295:=Int.mul_le_mul (by omega) (by omega) hbk.1 (by omega)
   have ev:IntKind.u64.wrap (c+IntKind.u64.wrap (IntKind.u64.wrap out[i+k]+IntKind.u64.wrap (IntKind.u64.wrap x*IntKind.u64.wrap b[k])))=c+out[i+k]+x*b[k]:=by
    rw[Zap (x:=out[i+k]) (by omega) (by omega),Zap (x:=x) (by omega) (by omega),Zap (x:=b[k]) (by omega) (by omega),Zap (x:=x*b[k]) (by omega) (by omega),Zap (x:=out[i+k]+x*b[k]) (by omega) (by omega),Zap (by omega) (by omega)]
    omega
   refine⟨b[k],Int.natCast_nonneg k,List.getElem?_eq_getElem hlt, ?_⟩
   refine And.intro ⟨e0,e1⟩ ?_
   refine Exists.intro (out[i+k]) (And.intro (by show out[0+(IntKind.i64.wrap ((i:Int)+(k:Int))).toNat]? =_;rw[et,Nat.zero_add];exact List.getElem?_eq_getElem ho) ?_)
   refine And.intro ⟨e0,e1⟩ ?_
   refine Exists.intro (out[i+k]) (And.intro (by show out[0+(IntKind.i64.wrap ((i:Int)+(k:Int))).toNat]? =_;rw[et,Nat.zero_add];exact List.getElem?_eq_getElem ho) ?_)
   refine And.intro (by decide) ?_
   obtain⟨v,hv⟩: ∃v,v=c+out[i+k]+x*b[k]:=⟨_,rfl⟩
   rw[←hv]at ev
   have ec:v/4294967296=(IntKind.u64.wrap (c+IntKind.u64.wrap (IntKind.u64.wrap out[i+k]+IntKind.u64.wrap (IntKind.u64.wrap x*IntKind.u64.wrap b[k])))).fdiv (2^min (Int.toNat 32) IntKind.u64.bits):=by rw[ev,Zlj]
   have er:out.set (i+k) (v % 4294967296)=out.set (0+(IntKind.i64.wrap ((i:Int)+(k:Int))).toNat) (IntKind.u32.wrap (IntKind.u64.wrap (c+IntKind.u64.wrap (IntKind.u64.wrap out[i+k]+IntKind.u64.wrap (IntKind.u64.wrap x*IntKind.u64.wrap b[k]))))):=by rw[ev,et,ZaJ,Nat.zero_add]
   have wi:IntKind.i64.wrap ((k:Int)+1)=((k+1:Nat):Int):=Zan (by omega) (by omega)
   refine⟨(k+1,v/4294967296,out.set (i+k) (v % 4294967296)),⟨hlt, ?_, ?_, ?_, ?_, ?_, ?_⟩, ?_, ?_⟩
   ·show 0≤v/4294967296;omega
   ·show v/4294967296<4294967296;omega
   ·show(out.set _ _).length=_;simpa using hlen
   ·intro y hy
    rcases List.mem_or_eq_of_mem_set hy with hy|rfl
    ·exact hwd y hy
    ·omega
   ·show(out.set (i+k) _).drop (i+(k+1))=_
    rw[List.drop_set_of_lt (by omega),show i+(k+1)=(i+k)+1 by omega,←List.drop_drop,hd,List.drop_drop]
   ·show wv ((out.set (i+k) _).take (i+(k+1)))+_=_
    rw[Za4 hlt]
    exact Zqo (a:=a) ho hd hv hval
   ·show b.length-(k+1)<b.length-k;omega
   ·refine Zaq rfl rfl ?_ ?_
    ·exact⟨⟨rfl,rfl⟩,⟨rfl,rfl⟩,⟨rfl,rfl⟩,⟨rfl,rfl,rfl⟩,rfl,rfl,ec,rfl,rfl,rfl,rfl,rfl,wi.symm,trivial⟩
    ·exact⟨⟨⟨rfl,rfl,trivial⟩,fun _=>rfl⟩,⟨⟨rfl,rfl,trivial⟩,fun _=>rfl⟩,⟨⟨rfl,trivial,trivial⟩,fun _=>rfl⟩,⟨er,fun _=>rfl⟩,trivial⟩
  ·have he:k=b.length:=by have:=of_decide_eq_false h;simp only at this;omega
   subst he
   rw[List.take_length]at hval
   exact⟨rfl,c,out,_,hc0,hc1,hlen,hwd,hval,rfl,rfl⟩
 ·exact⟨Nat.zero_le _,Int.le_refl _,by show(0:Int)<4294967296;decide,hn,hw0,rfl,by simp[wv]⟩
def ZuC (a:List Int) (n:Nat) (s:Nat×List Int):TM:=
 [(2, .ptr 0 0 0),(3, .ptr 1 0 0),(4, .ptr 2 0 0),(5, .ref 3 0 n none),(20,ZaX a),(21, .v (.i .i64) (a.length:Int)),(22, .v (.i .i64) (s.1:Int))]
set_option maxHeartbeats 4000000 in
theorem ZtV (A B:Int) (hA:ln A≤400000) (hB:ln B≤400000):PureOK Tryz.prog Zau 103 [IS A,IS B] (fun V=>V=IS (A*B)):=by
 refine Zaj Zao Tryz.func103 ?_
 obtain⟨a,ha⟩: ∃a,wOf A.natAbs=a:=⟨_,rfl⟩
 obtain⟨b,hb⟩: ∃b,wOf B.natAbs=b:=⟨_,rfl⟩
 have hla:a.length≤400000:=by rw[←ha];exact hA
 have hlb:b.length≤400000:=by rw[←hb];exact hB
 have hwa:Wd a:=ha▸ZcN _
 have hwb:Wd b:=hb▸ZcN _
 have hva:wv a=A.natAbs:=by rw[←ha];exact ZbL _
 have hvb:wv b=B.natAbs:=by rw[←hb];exact ZbL _
 have ea:IS A= .agg [.v .b (decide (A<0)),ZaX a]:=by rw[←ha]
 have eb:IS B= .agg [.v .b (decide (B<0)),ZaX b]:=by rw[←hb]
 rw[ea,eb]
 refine And.intro rfl ?_
 refine And.intro rfl ?_
 have w1:IntKind.i64.wrap ((a.length:Int)+(b.length:Int))=((a.length+b.length:Nat):Int):=Zan (by omega) (by omega)
 have w3:a.length+b.length=(IntKind.i64.wrap ((a.length:Int)+(b.length:Int))).toNat:=by rw[w1];omega
 have w2: ∀x:Int,x=((a.length+b.length:Nat):Int)→0≤x∧x≤x∧(4:Int)*x≤281474976710656∧x<9223372036854775808:=fun x hx=>by omega
 have w4:List.replicate (a.length+b.length) (0:Int)=List.replicate (IntKind.i64.wrap ((a.length:Int)+(b.length:Int))).toNat 0:=by rw[←w3]
 refine And.intro (w2 _ w1) ?_
 refine And.intro rfl ?_
 refine ZaC Zao rfl (ZuC a (a.length+b.length)) (fun s=>ZqH (IS A) (IS B) s.2)
  (fun s=>s.1≤a.length∧s.2.length=a.length+b.length∧Wd s.2∧wv (s.2.take (s.1+b.length))=wv (a.take s.1)*wv b) (fun s=>a.length-s.1) ?_ (0,List.replicate (a.length+b.length) 0) ?_ ?_
 ·rintro⟨i,out⟩ ⟨hi,hlen,hwd,hval⟩
  simp only at hi hlen hwd hval
  refine And.intro (fun h=> ?_) (fun h=> ?_)
  ·have hlt:i<a.length:=by have:=of_decide_eq_true h;simp only at this;omega
   have hai:=hwa _ (List.getElem_mem hlt)
   refine⟨a[i],Int.natCast_nonneg i,List.getElem?_eq_getElem hlt, ?_⟩
   refine And.intro rfl ?_
   refine((Zt5 A B a b out (a.length+b.length) i a[i] hwb hai hlen (by omega) (by omega) hwd).ent ?_).mono ?_
   ·refine Zaq rfl rfl ?_ ?_
    ·exact⟨⟨rfl,rfl⟩,⟨rfl,rfl⟩,⟨rfl,rfl⟩,⟨rfl,rfl,rfl⟩,rfl,rfl,rfl,rfl,rfl,rfl,hb.symm,(by show((b.length:Nat):Int)=_;rw[←hb]),rfl,trivial⟩
    ·exact⟨⟨⟨rfl,rfl,trivial⟩,fun _=>rfl⟩,⟨⟨rfl,rfl,trivial⟩,fun _=>rfl⟩,⟨⟨rfl,trivial,trivial⟩,fun _=>rfl⟩,⟨rfl,fun _=>rfl⟩,trivial⟩
   rintro _ _ _ ⟨rfl,c,out',X,hc0,hc1,hlen',hwd',hval',rfl,rfl⟩
   have ho:i+b.length<out'.length:=by omega
   have eik:IntKind.i64.wrap ((i:Int)+(((wOf B.natAbs).length:Nat):Int))=((i+b.length:Nat):Int):=by rw[hb];exact Zan (by omega) (by omega)
   have et:(IntKind.i64.wrap ((i:Int)+(((wOf B.natAbs).length:Nat):Int))).toNat=i+b.length:=by rw[eik];omega
   refine And.intro rfl ?_
   refine And.intro ⟨(by rw[eik];omega),(by rw[eik];omega)⟩ ?_
   refine Exists.intro (out'[i+b.length]) (And.intro (by show out'[0+(IntKind.i64.wrap ((i:Int)+(((wOf B.natAbs).length:Nat):Int))).toNat]? =_;rw[et,Nat.zero_add];exact List.getElem?_eq_getElem ho) ?_)
   have er:out'.set (i+b.length) c=out'.set (0+(IntKind.i64.wrap ((i:Int)+(((wOf B.natAbs).length:Nat):Int))).toNat) (IntKind.u32.wrap c):=by
    rw[et,ZaJ,Nat.zero_add,Int.emod_eq_of_lt hc0 hc1]
   have wi:IntKind.i64.wrap ((i:Int)+1)=((i+1:Nat):Int):=Zan (by omega) (by omega)
   refine⟨(i+1,out'.set (i+b.length) c),⟨hlt, ?_, ?_, ?_⟩, ?_, ?_⟩
   ·show(out'.set _ _).length=_;simpa using hlen'
   ·intro y hy
    rcases List.mem_or_eq_of_mem_set hy with hy|rfl
    ·exact hwd' y hy
    ·exact⟨hc0,hc1⟩
   ·show wv ((out'.set (i+b.length) c).take (i+1+b.length))=wv (a.take (i+1))*wv b
    rw[show i+1+b.length=i+b.length+1 by omega,Zby ho,ZcJ,List.length_take,Nat.min_eq_left (Nat.le_of_lt ho),Za4 hlt,Int.add_mul,←hval,Int.mul_assoc,←hval']
    simp[wv]
   ·show a.length-(i+1)<a.length-i;omega
   ·refine Zaq rfl rfl ?_ ?_
    ·exact⟨⟨rfl,rfl⟩,⟨rfl,rfl⟩,⟨rfl,rfl⟩,⟨rfl,rfl,rfl⟩,rfl,rfl,wi.symm,trivial⟩
    ·exact⟨⟨⟨rfl,rfl,trivial⟩,fun _=>rfl⟩,⟨⟨rfl,rfl,trivial⟩,fun _=>rfl⟩,⟨⟨rfl,trivial,trivial⟩,fun _=>rfl⟩,⟨er,fun _=>rfl⟩,trivial⟩
  ·have he:i=a.length:=by have:=of_decide_eq_false h;simp only at this;omega
   subst he
   rw[List.take_length,List.take_of_length_le (by omega)]at hval
   refine And.intro rfl ?_
   refine And.intro rfl ?_
   refine And.intro (by show 0+(a.length+b.length)≤out.length;omega) ?_
   have hs:sub out 0 (a.length+b.length)=out:=by rw[sub,List.drop_zero,List.take_of_length_le (by omega)]
   refine(Zfq (!(decide (A<0)==decide (B<0))) (sub out 0 (a.length+b.length)) (by rw[hs];exact hwd) (by rw[hs];omega)).mono ?_
   rintro _ rfl
   refine⟨rfl,rfl, ?_⟩
   have:sg (!(decide (A<0)==decide (B<0))) (wv (sub out 0 (a.length+b.length)))=A*B:=by
    rw[hs,hval,hva,hvb]
    by_cases h0:A<0<;>by_cases h1:B<0
    ·rw[decide_eq_true h0,decide_eq_true h1]
     show(A.natAbs:Int)*B.natAbs=A*B
     rw[Int.ofNat_natAbs_of_nonpos (by omega),Int.ofNat_natAbs_of_nonpos (by omega),Int.neg_mul_neg]
    ·rw[decide_eq_true h0,decide_eq_false h1]
     show-((A.natAbs:Int)*B.natAbs)=A*B
     rw[Int.ofNat_natAbs_of_nonpos (by omega),Int.natAbs_of_nonneg (by omega),Int.neg_mul,Int.neg_neg]
    ·rw[decide_eq_false h0,decide_eq_true h1]
     show-((A.natAbs:Int)*B.natAbs)=A*B
     rw[Int.natAbs_of_nonneg (by omega),Int.ofNat_natAbs_of_nonpos (by omega),Int.mul_neg,Int.neg_neg]
    ·rw[decide_eq_false h0,decide_eq_false h1]
     show(A.natAbs:Int)*B.natAbs=A*B
     rw[Int.natAbs_of_nonneg (by omega),Int.natAbs_of_nonneg (by omega)]
   show IS (sg (!(decide (A<0)==decide (B<0))) (wv (sub out 0 (a.length+b.length))))=IS (A*B)
   rw[this]
 ·refine⟨Nat.zero_le _,by simp,fun x hx=> ?_, ?_⟩
  ·have:=List.eq_of_mem_replicate hx
   rw[this];decide
  ·show wv ((List.replicate (a.length+b.length) 0).take (0+b.length))=_
   rw[List.take_replicate]
   have: ∀k,wv (List.replicate k 0)=0:=by
    intro k
    induction k with
    |zero=>rfl
    |succ k ih=>rw[List.replicate_succ,wv,ih];rfl
   rw[this];simp[wv]
 ·refine Zaq rfl rfl ?_ ?_
  ·exact⟨⟨rfl,rfl⟩,⟨rfl,rfl⟩,⟨rfl,rfl⟩,⟨rfl,w3,w3⟩,rfl,rfl,rfl,trivial⟩
  ·exact⟨⟨⟨rfl,ha,trivial⟩,fun _=>rfl⟩,⟨⟨rfl,hb,trivial⟩,fun _=>rfl⟩,⟨⟨rfl,trivial,trivial⟩,fun _=>rfl⟩,⟨w4,fun _=>rfl⟩,trivial⟩
end Go.Proofs.YtdnodlkdndfplaaGreatDoor
