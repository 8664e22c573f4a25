/-
 large.divWords: quotient and remainder.
-/
import Derived.Test.YtkhpbclcfldhmaaGreatDoorT15
import Derived.Test.YtkhpbclcfldhmaaGreatDoorT5
set_option linter.constructorNameAsVariable false
set_option linter.unusedSimpArgs false
set_option linter.unusedVariables false
namespace Go.Proofs.YtkhpbclcfldhmaaGreatDoor
open Go.Am Go.Tx Dv
set_option maxRecDepth 100000
set_option maxHeartbeats 16000000 in
theorem Zjw (A B:Nat) (hB:0<B) (hla:(wOf A).length≤800000) (hlb:(wOf B).length≤800000):PureOK Tryz.prog Zao 75 [Za8 (wOf A),Za8 (wOf B)] (fun V=> ∃q r,V= .tup [Za8 q,Za8 r]∧Wd q∧Wd r∧q.length≤800001∧r.length≤800001∧wv q=(A/B:Nat)∧wv r=(A % B:Nat)):=by
 obtain⟨a,ha⟩: ∃a,wOf A=a:=⟨_,rfl⟩
 obtain⟨b,hb⟩: ∃b,wOf B=b:=⟨_,rfl⟩
 have hcmp:=ZrH A B (by omega) (by omega)
 have hlen:(wOf A).length<(wOf B).length→A<B:=fun h=>by
  rcases Nat.lt_or_ge A B with h'|h'
  ·exact h'
  ·have:=Zbe h';omega
 have hwa:Wd a:=ha▸Zdb _
 have hwb:Wd b:=hb▸Zdb _
 have hva:wv a=A:=by rw[←ha];exact Zb5 _
 have hvb:wv b=B:=by rw[←hb];exact Zb5 _
 have hnz:b≠ []:=by
  rintro rfl
  have:=Zek.1 hb
  omega
 have hn1:1≤b.length:=by
  cases b with
  |nil=>exact absurd rfl hnz
  |cons x l=>simp
 have hNb:Nz b:=hb▸ZxG _
 rw[ha]at hcmp hlen hla⊢
 rw[hb]at hcmp hlen hlb⊢
 refine PureOK.as (Q:=fun V=>(∃q r,V= .tup [Za8 q,Za8 r]∧Wd q∧Wd r∧q.length≤800001∧r.length≤800001∧wv q=(A/B:Nat)∧wv r=(A % B:Nat))∨(V= .tup [.nils,Za8 a]∧A<B)) ?_ ?_
 rotate_left
 ·rintro V (h|⟨rfl,h⟩)
  ·exact⟨V,AsV.refl V,h⟩
  ·exact⟨_,AsV.tup2 (AsV.nil _) (AsV.refl _),[],a,rfl,fun x hx=>by simp at hx,hwa,by simp,by omega,by rw[Nat.div_eq_of_lt h];rfl,by rw[Nat.mod_eq_of_lt h,hva]⟩
 refine Zae Zah Tryz.func75 ?_
 refine hcmp.mono ?_
 rintro _ ⟨r,rfl,hr1,hr2⟩
 refine And.intro (fun h=> ?_) (fun h=> ?_)
 ·have hr:r<0:=of_decide_eq_true h
  exact .inr ⟨rfl,hr1.1 hr⟩
 have hr: ¬r<0:=of_decide_eq_false h
 have hAB:B≤A:=by omega
 have hba:b.length≤a.length:=by
  rcases Nat.lt_or_ge a.length b.length with h|h
  ·have:=hlen h;omega
  ·exact h
 refine And.intro (fun h1=> ?_) (fun h1=> ?_)
 ·have hb1:b.length=1:=by
   have h':(b.length:Int)=1:=of_decide_eq_true h1
   omega
  obtain⟨x,rfl⟩: ∃x,b=[x]:=List.length_eq_one_iff.1 hb1
  have hx:=hwb x (by simp)
  have hxv:x=B:=by simpa[wv]using hvb
  refine Exists.intro x ⟨by decide,rfl, ?_⟩
  refine(Zqr a x hwa (by omega) hx.2 (by omega)).mono ?_
  rintro _ ⟨q,rfl,q1,q2,q3⟩
  have hr0:0≤wv a % x:=Int.emod_nonneg _ (by omega)
  have hr1':wv a % x<x:=Int.emod_lt_of_pos _ (by omega)
  refine And.intro (by show 0+1≤1;decide) ?_
  refine .inl ⟨q,[wv a % x],rfl,q1, ?_,by omega,by simp, ?_, ?_⟩
  ·intro y hy
   rw[List.mem_singleton.1 hy];omega
  ·rw[q3,hva,hxv];rfl
  ·rw[hva,hxv]
   simp only[wv]
   rw[Int.natCast_emod];omega
 have hb2:2≤b.length:=by
  have h': ¬ (b.length:Int)=1:=of_decide_eq_false h1
  omega
 obtain⟨n,hn⟩: ∃n,b.length=n:=⟨_,rfl⟩
 obtain⟨m,hm⟩: ∃m,a.length=m:=⟨_,rfl⟩
 have hnl:n-1<b.length:=by omega
 obtain⟨x,ex⟩: ∃x,b[n-1]=x:=⟨_,rfl⟩
 have hx:=hwb _ (List.getElem_mem hnl)
 have hx0:x≠0:=by
  have:=hNb hnz
  rw[List.getLast_eq_getElem]at this
  rw[←ex]
  simpa[hn]using this
 rw[ex]at hx
 have gx:b[n-1]? =some x:=by rw[←ex];exact List.getElem?_eq_getElem hnl
 have en1:IntKind.i64.wrap ((b.length:Int)-1)=((n-1:Nat):Int):=by rw[Zar (by omega) (by omega)];omega
 refine Exists.intro x ⟨by rw[en1];omega,by rw[en1,Int.toNat_natCast];exact gx, ?_⟩
 refine(Zhz x (by omega) hx.2).mono ?_
 rintro _ ⟨s,rfl,s1,s2,s3⟩
 refine(ZlJ a s hwa s1 (by omega)).mono ?_
 rintro _ _ _ ⟨u,rfl,rfl,rfl,u1,u2,u3⟩
 refine(ZlJ b s hwb s1 (by omega)).mono ?_
 rintro _ _ _ ⟨W,rfl,rfl,rfl,v1,v2,v3⟩
 rw[hn]at v2
 rw[hm]at u2
 obtain⟨d1,d2,d3⟩:=Zsd (by omega) hn hwb gx s1 s2 s3 v2 v1 v3
 have emn:IntKind.i64.wrap (IntKind.i64.wrap ((a.length:Int)-(b.length:Int))+1)=((m-n+1:Nat):Int):=by rw[Zar (x:=(a.length:Int)-(b.length:Int)) (by omega) (by omega),Zar (by omega) (by omega)];omega
 have emn2:((m-n+1:Nat):Int)-1=IntKind.i64.wrap ((a.length:Int)-(b.length:Int)):=by rw[Zar (by omega) (by omega)];omega
 have w2: ∀x:Int,x=((m-n+1:Nat):Int)→0≤x∧x≤x∧(4:Int)*x≤281474976710656∧x<9223372036854775808:=fun x hx=>by omega
 have w3:m-n+1=(IntKind.i64.wrap (IntKind.i64.wrap ((a.length:Int)-(b.length:Int))+1)).toNat:=by rw[emn];omega
 have hn2:0≤(n:Int)∧(n:Int)≤n∧(4:Int)*n≤281474976710656∧(n:Int)<9223372036854775808:=by omega
 refine And.intro ⟨Int.natCast_nonneg _,(by omega:(b.length:Int)≤((b.length+1:Nat):Int))⟩ ?_
 refine And.intro (w2 _ emn) ?_
 have hD0:DInv W n m (wv u) (m-n+1,u,List.replicate (m-n+1) 0):=by
  refine⟨Nat.le_refl _,u2,u1,by simp, ?_, ?_, ?_⟩
  ·show Wd ((List.replicate (m-n+1) (0:Int)).drop (m-n+1))
   rw[List.drop_of_length_le (by simp)]
   intro y hy;simp at hy
  ·show wv (u.drop (m-n+1))<wv (W.take n)
   rw[d1]
   exact ZqY hm hwa s1 u2 u1 u3 (by omega) (by omega) d3
  ·show wv u=wv (W.take n)*(4294967296^(m-n+1)*wv ((List.replicate (m-n+1) (0:Int)).drop (m-n+1)))+wv u
   rw[List.drop_of_length_le (by simp)]
   simp[wv]
 refine((ZrQ a b u W (List.replicate (m-n+1) 0) n m s (wv u) (by omega) (by omega) (by omega) v2 v1 d2 hD0).ent ?_).mono ?_
 ·refine ZaC rfl rfl ?_ ?_
  ·exact⟨rfl,rfl,⟨rfl,w3,w3⟩,rfl,⟨rfl,by rw[←hm],by rw[←hm]⟩,⟨rfl,(by show n=(b.length:Int).toNat-0;omega),(by show n+1=b.length+1-0;omega)⟩,(by show(n:Int)=(b.length:Int);omega),emn2,trivial⟩
  ·exact⟨⟨rfl,fun _=>rfl⟩,⟨rfl,fun _=>rfl⟩,⟨(by show List.replicate (m-n+1) (0:Int)=List.replicate _ 0;rw[←w3]),fun _=>rfl⟩,trivial⟩
 rintro _ _ _ ⟨rfl,u',q,X,Y,⟨i1,i2,i3,i4,i5,i6,i7⟩,rfl,rfl⟩
 simp only[List.drop_zero,Int.pow_zero,Int.one_mul]at i1 i2 i3 i4 i5 i6 i7
 refine And.intro hn2 ?_
 refine((Zt6 u' q n m s s1 (by omega) (by omega) i2 i3).ent ?_).mono ?_
 ·refine ZaC rfl rfl ?_ ?_
  ·exact⟨⟨rfl,rfl,rfl⟩,⟨rfl,(Int.toNat_natCast n).symm,(Int.toNat_natCast n).symm⟩,rfl,⟨rfl,rfl,rfl⟩,rfl,rfl,trivial⟩
  ·exact⟨⟨rfl,fun _=>rfl⟩,trivial,⟨rfl,fun _=>rfl⟩,⟨(by show List.replicate n (0:Int)=List.replicate ((n:Int).toNat) 0;rw[Int.toNat_natCast]),fun _=>rfl⟩,trivial⟩
 rintro _ _ _ ⟨rfl,r',X2,⟨r1,r2,r3⟩,rfl,rfl⟩
 refine And.intro (by show 0+(m-n+1)≤q.length;omega) ?_
 refine And.intro (by show 0+n≤r'.length;omega) ?_
 have sq:sub q 0 (m-n+1)=q:=by rw[sub,List.drop_zero,List.take_of_length_le (by omega)]
 have sr:sub r' 0 n=r':=by rw[sub,List.drop_zero,List.take_of_length_le (by omega)]
 have hun:=wvn i3
 obtain⟨z1,z2⟩:=Zqu (A:=(A:Int)) (B:=(B:Int)) (Q:=wv q) (R:=wv u') (s:=s) (by omega) (by rw[←hva,←hvb,←u3,←d1];exact i7) hun (by rw[←hvb,←d1];exact i6)
 have hDn:wv (W.take n)<4294967296^n:=by
  have:=(Za7 (v1.take n)).2
  rw[List.length_take,Nat.min_eq_left (by omega)]at this
  exact this
 have hzn:=ZiT (n:=n) i3 (by omega)
 have hlt:n<u'.length:=by omega
 have hcd:=Zcs hlt
 have hn0:=i3 _ (List.getElem_mem hlt)
 have hn3:=wvn (i3.drop (n+1))
 have hu0:u'[n]! =0:=by rw[getElem!_pos u' n hlt];omega
 have hut:wv (u'.take (n+1))=wv u':=by
  have:=seg u' (n+1) (by omega)
  have hz:wv (u'.drop (n+1))=0:=by omega
  rw[hz,Int.mul_zero]at this
  omega
 rw[hu0,hut,z2,Int.zero_ediv,Int.mul_zero,Int.add_zero]at r3
 refine .inl ⟨sub q 0 (m-n+1),sub r' 0 n,rfl,by rw[sq];exact i5,by rw[sr];exact r2,by rw[sq];omega,by rw[sr];omega, ?_, ?_⟩
 ·rw[sq,z1];rfl
 ·rw[sr,r3];rfl
end Go.Proofs.YtkhpbclcfldhmaaGreatDoor
/-
 Integers of any size: Mul.
-/
namespace Go.Proofs.YtkhpbclcfldhmaaGreatDoor
open Go.Am Go.Tx Dv
set_option maxRecDepth 100000
theorem ZuO {a out ZbO:List Int} {i k:Nat} {c x y v b0:Int} (ho:i+k<out.length) (hd:out.drop (i+k)=ZbO.drop (i+k)) (hv:v=c+out[i+k]+x*y)
 (h:wv (out.take (i+k))+4294967296^(i+k)*c=wv (ZbO.take (i+k))+4294967296^i*(x*b0)):
 wv ((out.set (i+k) (v % 4294967296)).take (i+k+1))+4294967296^(i+k+1)*(v/4294967296)=wv (ZbO.take (i+k+1))+4294967296^i*(x*(b0+4294967296^k*y)):=by
 have hl:out.length=ZbO.length∨True:= .inr trivial
 have h0:ZbO[i+k]? =some out[i+k]:=by
  have:(out.drop (i+k))[0]? =(ZbO.drop (i+k))[0]? :=by rw[hd]
  rw[List.getElem?_drop,List.getElem?_drop,Nat.add_zero,List.getElem?_eq_getElem ho]at this
  exact this.symm
 obtain⟨ho0,h0⟩:=List.getElem?_eq_some_iff.1 h0
 rw[Zb7 ho,Zdy,Zbx ho0,h0,List.length_take,Nat.min_eq_left (Nat.le_of_lt ho),Int.pow_succ]
 have e:v % 4294967296+4294967296*(v/4294967296)=v:=Int.emod_add_mul_ediv v 4294967296
 have e1:wv [v % 4294967296]=v % 4294967296:=by simp[wv]
 have e2:(4294967296:Int)^(i+k)*(v % 4294967296)+4294967296^(i+k)*4294967296*(v/4294967296)=4294967296^(i+k)*v:=by
  rw[Int.mul_assoc,←Int.mul_add,e]
 have e3:(4294967296:Int)^(i+k)=4294967296^i*4294967296^k:=Int.pow_add ..
 rw[e1,Int.add_assoc,e2,hv]
 generalize(4294967296:Int)^i=p at*
 generalize(4294967296:Int)^k=q at*
 rw[e3]at h⊢
 grind
def Zue (A B:SV) (out:List Int):List SM:=[.cell (Zba A) true, .cell (Zba B) true, .cell [.v .b false, .nils] true, .row (.i .u32) out true]
def Zzm (a b:List Int) (n i:Nat) (x:Int) (s:Nat×Int×List Int):TM:=
 [(2, .ptr 0 0 0),(3, .ptr 1 0 0),(4, .ptr 2 0 0),(5, .ref 3 0 n none),(6, .v (.i .i64) (i:Int)),(7, .v (.i .u32) x),(8, .v (.i .u64) s.2.1),(20,Za8 a),(21, .v (.i .i64) (a.length:Int)),(22, .v (.i .i64) (i:Int)),(28,Za8 b),(29, .v (.i .i64) (b.length:Int)),(30, .v (.i .i64) (s.1:Int))]
set_option maxHeartbeats 4000000 in
theorem ZyV (A B:Int) (a b ZbO:List Int) (n i:Nat) (x:Int) (hb:Wd b) (hx:0≤x∧x<4294967296) (hn:ZbO.length=n) (hi:i+b.length≤n) (hnl:n≤2000000) (hw0:Wd ZbO):
 LoopOK Tryz.prog Zao 0 ⟨44,0,77⟩ (Zbw Tryz.f44 7) (Zzm a b n i x (0,0,ZbO)) (Zue (IS A) (IS B) ZbO)
 (fun e tm hp=>e= .exit 2∧ ∃c out X,0≤c∧c<4294967296∧out.length=n∧Wd out∧wv (out.take (i+b.length))+4294967296^(i+b.length)*c=wv (ZbO.take (i+b.length))+4294967296^i*(x*wv b)∧tm=(31,X)::Zzm a b n i x (b.length,c,out)∧hp=Zue (IS A) (IS B) out):=by
 refine Zaz Zah rfl (Zzm a b n i x) (fun s=>Zue (IS A) (IS B) s.2.2)
  (fun s=>s.1≤b.length∧0≤s.2.1∧s.2.1<4294967296∧s.2.2.length=n∧Wd s.2.2∧s.2.2.drop (i+s.1)=ZbO.drop (i+s.1)∧wv (s.2.2.take (i+s.1))+4294967296^(i+s.1)*s.2.1=wv (ZbO.take (i+s.1))+4294967296^i*(x*wv (b.take s.1))) (fun s=>b.length-s.1) ?_ (0,0,ZbO) ?_ ZaU
 ·rintro⟨k,c,out⟩ ⟨hk,hc0,hc1,hlen,hwd,hd,hval⟩
  simp only at hk hc0 hc1 hlen hwd hd hval
  refine And.intro (fun h=> ?_) (fun h=> ?_)
  ·have hlt:k<b.length:=by have:=of_decide_eq_true h;simp only at this;omega
   have hbk:=hb _ (List.getElem_mem hlt)
   have ho:i+k<out.length:=by omega
   have hoi:=hwd _ (List.getElem_mem ho)
   have eik:IntKind.i64.wrap ((i:Int)+(k:Int))=((i+k:Nat):Int):=Zar (by omega) (by omega)
   have et:(IntKind.i64.wrap ((i:Int)+(k:Int))).toNat=i+k:=by rw[eik];omega
   have e0:(0:Int)≤IntKind.i64.wrap ((i:Int)+(k:Int)):=by rw[eik];omega
   have e1:IntKind.i64.wrap ((i:Int)+(k:Int))<(n:Int):=by rw[eik];omega
   have hxy0:0≤x*b[k]:=Int.mul_nonneg hx.1 hbk.1
   have hxy1:x*b[k]≤4294967295*4294967295:=Int.mul_le_mul (by omega) (by omega) hbk.1 (by omega)
   have ev:IntKind.u64.wrap (c+IntKind.u64.wrap (IntKind.u64.wrap out[i+k]+IntKind.u64.wrap (IntKind.u64.wrap x*IntKind.u64.wrap b[k])))=c+out[i+k]+x*b[k]:=by
    rw[Zas (x:=out[i+k]) (by omega) (by omega),Zas (x:=x) (by omega) (by omega),Zas (x:=b[k]) (by omega) (by omega),Zas (x:=x*b[k]) (by omega) (by omega),Zas (x:=out[i+k]+x*b[k]) (by omega) (by omega),Zas (by omega) (by omega)]
    omega
   refine⟨b[k],Int.natCast_nonneg k,List.getElem?_eq_getElem hlt, ?_⟩
   refine And.intro ⟨e0,e1⟩ ?_
   refine Exists.intro (out[i+k]) (And.intro (by show out[0+(IntKind.i64.wrap ((i:Int)+(k:Int))).toNat]? =_;rw[et,Nat.zero_add];exact List.getElem?_eq_getElem ho) ?_)
   refine And.intro ⟨e0,e1⟩ ?_
   refine Exists.intro (out[i+k]) (And.intro (by show out[0+(IntKind.i64.wrap ((i:Int)+(k:Int))).toNat]? =_;rw[et,Nat.zero_add];exact List.getElem?_eq_getElem ho) ?_)
   refine And.intro (by decide) ?_
   obtain⟨v,hv⟩: ∃v,v=c+out[i+k]+x*b[k]:=⟨_,rfl⟩
   rw[←hv]at ev
   have ec:v/4294967296=(IntKind.u64.wrap (c+IntKind.u64.wrap (IntKind.u64.wrap out[i+k]+IntKind.u64.wrap (IntKind.u64.wrap x*IntKind.u64.wrap b[k])))).fdiv (2^min (Int.toNat 32) IntKind.u64.bits):=by rw[ev,ZnV]
   have er:out.set (i+k) (v % 4294967296)=out.set (0+(IntKind.i64.wrap ((i:Int)+(k:Int))).toNat) (IntKind.u32.wrap (IntKind.u64.wrap (c+IntKind.u64.wrap (IntKind.u64.wrap out[i+k]+IntKind.u64.wrap (IntKind.u64.wrap x*IntKind.u64.wrap b[k]))))):=by rw[ev,et,Za0,Nat.zero_add]
   have wi:IntKind.i64.wrap ((k:Int)+1)=((k+1:Nat):Int):=Zar (by omega) (by omega)
   refine⟨(k+1,v/4294967296,out.set (i+k) (v % 4294967296)),⟨hlt, ?_, ?_, ?_, ?_, ?_, ?_⟩, ?_, ?_⟩
   ·show 0≤v/4294967296;omega
   ·show v/4294967296<4294967296;omega
   ·show(out.set _ _).length=_;simpa using hlen
   ·intro y hy
    rcases List.mem_or_eq_of_mem_set hy with hy|rfl
    ·exact hwd y hy
    ·omega
   ·show(out.set (i+k) _).drop (i+(k+1))=_
    rw[List.drop_set_of_lt (by omega),show i+(k+1)=(i+k)+1 by omega,←List.drop_drop,hd,List.drop_drop]
   ·show wv ((out.set (i+k) _).take (i+(k+1)))+_=_
    rw[Zbx hlt]
    exact ZuO (a:=a) ho hd hv hval
   ·show b.length-(k+1)<b.length-k;omega
   ·refine ZaC rfl rfl ?_ ?_
    ·exact⟨⟨rfl,rfl⟩,⟨rfl,rfl⟩,⟨rfl,rfl⟩,⟨rfl,rfl,rfl⟩,rfl,rfl,ec,rfl,rfl,rfl,rfl,rfl,wi.symm,trivial⟩
    ·exact⟨⟨⟨rfl,rfl,trivial⟩,fun _=>rfl⟩,⟨⟨rfl,rfl,trivial⟩,fun _=>rfl⟩,⟨⟨rfl,trivial,trivial⟩,fun _=>rfl⟩,⟨er,fun _=>rfl⟩,trivial⟩
  ·have he:k=b.length:=by have:=of_decide_eq_false h;simp only at this;omega
   subst he
   rw[List.take_length]at hval
   exact⟨rfl,c,out,_,hc0,hc1,hlen,hwd,hval,rfl,rfl⟩
 ·exact⟨Nat.zero_le _,Int.le_refl _,by show(0:Int)<4294967296;decide,hn,hw0,rfl,by simp[wv]⟩
def Zz1 (a:List Int) (n:Nat) (s:Nat×List Int):TM:=
 [(2, .ptr 0 0 0),(3, .ptr 1 0 0),(4, .ptr 2 0 0),(5, .ref 3 0 n none),(20,Za8 a),(21, .v (.i .i64) (a.length:Int)),(22, .v (.i .i64) (s.1:Int))]
set_option maxHeartbeats 4000000 in
theorem ZlS (A B:Int) (hA:ln A≤400000) (hB:ln B≤400000):PureOK Tryz.prog Zao 44 [IS A,IS B] (fun V=>V=IS (A*B)):=by
 refine Zae Zah Tryz.func44 ?_
 obtain⟨a,ha⟩: ∃a,wOf A.natAbs=a:=⟨_,rfl⟩
 obtain⟨b,hb⟩: ∃b,wOf B.natAbs=b:=⟨_,rfl⟩
 have hla:a.length≤400000:=by rw[←ha];exact hA
 have hlb:b.length≤400000:=by rw[←hb];exact hB
 have hwa:Wd a:=ha▸Zdb _
 have hwb:Wd b:=hb▸Zdb _
 have hva:wv a=A.natAbs:=by rw[←ha];exact Zb5 _
 have hvb:wv b=B.natAbs:=by rw[←hb];exact Zb5 _
 have ea:IS A= .agg [.v .b (decide (A<0)),Za8 a]:=by rw[←ha]
 have eb:IS B= .agg [.v .b (decide (B<0)),Za8 b]:=by rw[←hb]
 rw[ea,eb]
 refine And.intro rfl ?_
 refine And.intro rfl ?_
 have w1:IntKind.i64.wrap ((a.length:Int)+(b.length:Int))=((a.length+b.length:Nat):Int):=Zar (by omega) (by omega)
 have w3:a.length+b.length=(IntKind.i64.wrap ((a.length:Int)+(b.length:Int))).toNat:=by rw[w1];omega
 have w2: ∀x:Int,x=((a.length+b.length:Nat):Int)→0≤x∧x≤x∧(4:Int)*x≤281474976710656∧x<9223372036854775808:=fun x hx=>by omega
 have w4:List.replicate (a.length+b.length) (0:Int)=List.replicate (IntKind.i64.wrap ((a.length:Int)+(b.length:Int))).toNat 0:=by rw[←w3]
 refine And.intro (w2 _ w1) ?_
 refine And.intro rfl ?_
 refine Zaz Zah rfl (Zz1 a (a.length+b.length)) (fun s=>Zue (IS A) (IS B) s.2)
  (fun s=>s.1≤a.length∧s.2.length=a.length+b.length∧Wd s.2∧wv (s.2.take (s.1+b.length))=wv (a.take s.1)*wv b) (fun s=>a.length-s.1) ?_ (0,List.replicate (a.length+b.length) 0) ?_ ?_
 ·rintro⟨i,out⟩ ⟨hi,hlen,hwd,hval⟩
  simp only at hi hlen hwd hval
  refine And.intro (fun h=> ?_) (fun h=> ?_)
  ·have hlt:i<a.length:=by have:=of_decide_eq_true h;simp only at this;omega
   have hai:=hwa _ (List.getElem_mem hlt)
   refine⟨a[i],Int.natCast_nonneg i,List.getElem?_eq_getElem hlt, ?_⟩
   refine And.intro rfl ?_
   refine((ZyV A B a b out (a.length+b.length) i a[i] hwb hai hlen (by omega) (by omega) hwd).ent ?_).mono ?_
   ·refine ZaC rfl rfl ?_ ?_
    ·exact⟨⟨rfl,rfl⟩,⟨rfl,rfl⟩,⟨rfl,rfl⟩,⟨rfl,rfl,rfl⟩,rfl,rfl,rfl,rfl,rfl,rfl,hb.symm,(by show((b.length:Nat):Int)=_;rw[←hb]),rfl,trivial⟩
    ·exact⟨⟨⟨rfl,rfl,trivial⟩,fun _=>rfl⟩,⟨⟨rfl,rfl,trivial⟩,fun _=>rfl⟩,⟨⟨rfl,trivial,trivial⟩,fun _=>rfl⟩,⟨rfl,fun _=>rfl⟩,trivial⟩
   rintro _ _ _ ⟨rfl,c,out',X,hc0,hc1,hlen',hwd',hval',rfl,rfl⟩
   have ho:i+b.length<out'.length:=by omega
   have eik:IntKind.i64.wrap ((i:Int)+(((wOf B.natAbs).length:Nat):Int))=((i+b.length:Nat):Int):=by rw[hb];exact Zar (by omega) (by omega)
   have et:(IntKind.i64.wrap ((i:Int)+(((wOf B.natAbs).length:Nat):Int))).toNat=i+b.length:=by rw[eik];omega
   refine And.intro rfl ?_
   refine And.intro ⟨(by rw[eik];omega),(by rw[eik];omega)⟩ ?_
   refine Exists.intro (out'[i+b.length]) (And.intro (by show out'[0+(IntKind.i64.wrap ((i:Int)+(((wOf B.natAbs).length:Nat):Int))).toNat]? =_;rw[et,Nat.zero_add];exact List.getElem?_eq_getElem ho) ?_)
   have er:out'.set (i+b.length) c=out'.set (0+(IntKind.i64.wrap ((i:Int)+(((wOf B.natAbs).length:Nat):Int))).toNat) (IntKind.u32.wrap c):=by
    rw[et,Za0,Nat.zero_add,Int.emod_eq_of_lt hc0 hc1]
   have wi:IntKind.i64.wrap ((i:Int)+1)=((i+1:Nat):Int):=Zar (by omega) (by omega)
   refine⟨(i+1,out'.set (i+b.length) c),⟨hlt, ?_, ?_, ?_⟩, ?_, ?_⟩
   ·show(out'.set _ _).length=_;simpa using hlen'
   ·intro y hy
    rcases List.mem_or_eq_of_mem_set hy with hy|rfl
    ·exact hwd' y hy
    ·exact⟨hc0,hc1⟩
   ·show wv ((out'.set (i+b.length) c).take (i+1+b.length))=wv (a.take (i+1))*wv b
    rw[show i+1+b.length=i+b.length+1 by omega,Zb7 ho,Zdy,List.length_take,Nat.min_eq_left (Nat.le_of_lt ho),Zbx hlt,Int.add_mul,←hval,Int.mul_assoc,←hval']
    simp[wv]
   ·show a.length-(i+1)<a.length-i;omega
   ·refine ZaC rfl rfl ?_ ?_
    ·exact⟨⟨rfl,rfl⟩,⟨rfl,rfl⟩,⟨rfl,rfl⟩,⟨rfl,rfl,rfl⟩,rfl,rfl,wi.symm,trivial⟩
    ·exact⟨⟨⟨rfl,rfl,trivial⟩,fun _=>rfl⟩,⟨⟨rfl,rfl,trivial⟩,fun _=>rfl⟩,⟨⟨rfl,trivial,trivial⟩,fun _=>rfl⟩,⟨er,fun _=>rfl⟩,trivial⟩
  ·have he:i=a.length:=by have:=of_decide_eq_false h;simp only at this;omega
   subst he
   rw[List.take_length,List.take_of_length_le (by omega)]at hval
   refine And.intro rfl ?_
   refine And.intro rfl ?_
   refine And.intro (by show 0+(a.length+b.length)≤out.length;omega) ?_
   have hs:sub out 0 (a.length+b.length)=out:=by rw[sub,List.drop_zero,List.take_of_length_le (by omega)]
   refine(Zd6 (!(decide (A<0)==decide (B<0))) (sub out 0 (a.length+b.length)) (by rw[hs];exact hwd) (by rw[hs];omega)).mono ?_
   rintro _ rfl
   refine⟨rfl,rfl, ?_⟩
   have:sg (!(decide (A<0)==decide (B<0))) (wv (sub out 0 (a.length+b.length)))=A*B:=by
    rw[hs,hval,hva,hvb]
    by_cases h0:A<0<;>by_cases h1:B<0
    ·rw[decide_eq_true h0,decide_eq_true h1]
     show(A.natAbs:Int)*B.natAbs=A*B
     rw[Int.ofNat_natAbs_of_nonpos (by omega),Int.ofNat_natAbs_of_nonpos (by omega),Int.neg_mul_neg]
    ·rw[decide_eq_true h0,decide_eq_false h1]
     show-((A.natAbs:Int)*B.natAbs)=A*B
     rw[Int.ofNat_natAbs_of_nonpos (by omega),Int.natAbs_of_nonneg (by omega),Int.neg_mul,Int.neg_neg]
    ·rw[decide_eq_false h0,decide_eq_true h1]
     show-((A.natAbs:Int)*B.natAbs)=A*B
     rw[Int.natAbs_of_nonneg (by omega),Int.ofNat_natAbs_of_nonpos (by omega),Int.mul_neg,Int.neg_neg]
    ·rw[decide_eq_false h0,decide_eq_false h1]
     show(A.natAbs:Int)*B.natAbs=A*B
     rw[Int.natAbs_of_nonneg (by omega),Int.natAbs_of_nonneg (by omega)]
   show IS (sg (!(decide (A<0)==decide (B<0))) (wv (sub out 0 (a.length+b.length))))=IS (A*B)
   rw[this]
 ·refine⟨Nat.zero_le _,by simp,fun x hx=> ?_, ?_⟩
  ·have:=List.eq_of_mem_replicate hx
   rw[this];decide
  ·show wv ((List.replicate (a.length+b.length) 0).take (0+b.length))=_
   rw[List.take_replicate]
   have: ∀k,wv (List.replicate k 0)=0:=by
    intro k
    induction k with
    |zero=>rfl
    |succ k ih=>rw[List.replicate_succ,wv,ih];rfl
   rw[this];simp[wv]
 ·refine ZaC rfl rfl ?_ ?_
  ·exact⟨⟨rfl,rfl⟩,⟨rfl,rfl⟩,⟨rfl,rfl⟩,⟨rfl,w3,w3⟩,rfl,rfl,rfl,trivial⟩
  ·exact⟨⟨⟨rfl,ha,trivial⟩,fun _=>rfl⟩,⟨⟨rfl,hb,trivial⟩,fun _=>rfl⟩,⟨⟨rfl,trivial,trivial⟩,fun _=>rfl⟩,⟨w4,fun _=>rfl⟩,trivial⟩
end Go.Proofs.YtkhpbclcfldhmaaGreatDoor
