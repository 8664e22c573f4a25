/-
 large.divWords: quotient and remainder.
-/
import Derived.Test.YtdnodlkdndfplaaGreatDoorT15
import Derived.Test.YtdnodlkdndfplaaGreatDoorT5
set_option linter.constructorNameAsVariable false
set_option linter.unusedSimpArgs false
set_option linter.unusedVariables false
namespace Go.Proofs.YtdnodlkdndfplaaGreatDoor
open Go.Am Go.Tx Dv
set_option maxRecDepth 100000
set_option maxHeartbeats 16000000 in
theorem ZmZ (A B:Nat) (hB:0<B) (hla:(wOf A).length≤800000) (hlb:(wOf B).length≤800000):PureOK Tryz.prog Zau 164 [ZaX (wOf A),ZaX (wOf B)] (fun V=> ∃q r,V= .tup [ZaX q,ZaX r]∧Wd q∧Wd r∧q.length≤800001∧r.length≤800001∧wv q=(A/B:Nat)∧wv r=(A % B:Nat)):=by
 obtain⟨a,ha⟩: ∃a,wOf A=a:=⟨_,rfl⟩
 obtain⟨b,hb⟩: ∃b,wOf B=b:=⟨_,rfl⟩
 have hcmp:=ZpC A B (by omega) (by omega)
 have hlen:(wOf A).length<(wOf B).length→A<B:=fun h=>by
  rcases Nat.lt_or_ge A B with h'|h'
  ·exact h'
  ·have:=Za6 h';omega
 have hwa:Wd a:=ha▸ZcN _
 have hwb:Wd b:=hb▸ZcN _
 have hva:wv a=A:=by rw[←ha];exact ZbL _
 have hvb:wv b=B:=by rw[←hb];exact ZbL _
 have hnz:b≠ []:=by
  rintro rfl
  have:=Zd7.1 hb
  omega
 have hn1:1≤b.length:=by
  cases b with
  |nil=>exact absurd rfl hnz
  |cons x l=>simp
 have hNb:Nz b:=hb▸ZsC _
 rw[ha]at hcmp hlen hla⊢
 rw[hb]at hcmp hlen hlb⊢
 refine PureOK.as (Q:=fun V=>(∃q r,V= .tup [ZaX q,ZaX r]∧Wd q∧Wd r∧q.length≤800001∧r.length≤800001∧wv q=(A/B:Nat)∧wv r=(A % B:Nat))∨(V= .tup [.nils,ZaX a]∧A<B)) ?_ ?_
 rotate_left
 ·rintro V (h|⟨rfl,h⟩)
  ·exact⟨V,AsV.refl V,h⟩
  ·exact⟨_,AsV.tup2 (AsV.nil _) (AsV.refl _),[],a,rfl,fun x hx=>by simp at hx,hwa,by simp,by omega,by rw[Nat.div_eq_of_lt h];rfl,by rw[Nat.mod_eq_of_lt h,hva]⟩
 refine Zaj Zao Tryz.func164 ?_
 refine hcmp.mono ?_
 rintro _ ⟨r,rfl,hr1,hr2⟩
 refine And.intro (fun h=> ?_) (fun h=> ?_)
 ·have hr:r<0:=of_decide_eq_true h
  exact .inr ⟨rfl,hr1.1 hr⟩
 have hr: ¬r<0:=of_decide_eq_false h
 have hAB:B≤A:=by omega
 have hba:b.length≤a.length:=by
  rcases Nat.lt_or_ge a.length b.length with h|h
  ·have:=hlen h;omega
  ·exact h
 refine And.intro (fun h1=> ?_) (fun h1=> ?_)
 ·have hb1:b.length=1:=by
   have h':(b.length:Int)=1:=of_decide_eq_true h1
   omega
  obtain⟨x,rfl⟩: ∃x,b=[x]:=List.length_eq_one_iff.1 hb1
  have hx:=hwb x (by simp)
  have hxv:x=B:=by simpa[wv]using hvb
  refine Exists.intro x ⟨by decide,rfl, ?_⟩
  refine(ZmC a x hwa (by omega) hx.2 (by omega)).mono ?_
  rintro _ ⟨q,rfl,q1,q2,q3⟩
  have hr0:0≤wv a % x:=Int.emod_nonneg _ (by omega)
  have hr1':wv a % x<x:=Int.emod_lt_of_pos _ (by omega)
  refine And.intro (by show 0+1≤1;decide) ?_
  refine .inl ⟨q,[wv a % x],rfl,q1, ?_,by omega,by simp, ?_, ?_⟩
  ·intro y hy
   rw[List.mem_singleton.1 hy];omega
  ·rw[q3,hva,hxv];rfl
  ·rw[hva,hxv]
   simp only[wv]
   rw[Int.natCast_emod];omega
 have hb2:2≤b.length:=by
  have h': ¬ (b.length:Int)=1:=of_decide_eq_false h1
  omega
 obtain⟨n,hn⟩: ∃n,b.length=n:=⟨_,rfl⟩
 obtain⟨m,hm⟩: ∃m,a.length=m:=⟨_,rfl⟩
 have hnl:n-1<b.length:=by omega
 obtain⟨x,ex⟩: ∃x,b[n-1]=x:=⟨_,rfl⟩
 have hx:=hwb _ (List.getElem_mem hnl)
 have hx0:x≠0:=by
  have:=hNb hnz
  rw[List.getLast_eq_getElem]at this
  rw[←ex]
  simpa[hn]using this
 rw[ex]at hx
 have gx:b[n-1]? =some x:=by rw[←ex];exact List.getElem?_eq_getElem hnl
 have en1:IntKind.i64.wrap ((b.length:Int)-1)=((n-1:Nat):Int):=by rw[Zan (by omega) (by omega)];omega
 refine Exists.intro x ⟨by rw[en1];omega,by rw[en1,Int.toNat_natCast];exact gx, ?_⟩
 refine(Zga x (by omega) hx.2).mono ?_
 rintro _ ⟨s,rfl,s1,s2,s3⟩
 refine(ZjV a s hwa s1 (by omega)).mono ?_
 rintro _ _ _ ⟨u,rfl,rfl,rfl,u1,u2,u3⟩
 refine(ZjV b s hwb s1 (by omega)).mono ?_
 rintro _ _ _ ⟨W,rfl,rfl,rfl,v1,v2,v3⟩
 rw[hn]at v2
 rw[hm]at u2
 obtain⟨d1,d2,d3⟩:=ZnQ (by omega) hn hwb gx s1 s2 s3 v2 v1 v3
 have emn:IntKind.i64.wrap (IntKind.i64.wrap ((a.length:Int)-(b.length:Int))+1)=((m-n+1:Nat):Int):=by rw[Zan (x:=(a.length:Int)-(b.length:Int)) (by omega) (by omega),Zan (by omega) (by omega)];omega
 have emn2:((m-n+1:Nat):Int)-1=IntKind.i64.wrap ((a.length:Int)-(b.length:Int)):=by rw[Zan (by omega) (by omega)];omega
 have w2: ∀x:Int,x=((m-n+1:Nat):Int)→0≤x∧x≤x∧(4:Int)*x≤281474976710656∧x<9223372036854775808:=fun x hx=>by omega
 have w3:m-n+1=(IntKind.i64.wrap (IntKind.i64.wrap ((a.length:Int)-(b.length:Int))+1)).toNat:=by rw[emn];omega
 have hn2:0≤(n:Int)∧(n:Int)≤n∧(4:Int)*n≤281474976710656∧(n:Int)<9223372036854775808:=by omega
 refine And.intro ⟨Int.natCast_nonneg _,(by omega:(b.length:Int)≤((b.length+1:Nat):Int))⟩ ?_
 refine And.intro (w2 _ emn) ?_
 have hD0:DInv W n m (wv u) (m-n+1,u,List.replicate (m-n+1) 0):=by
  refine⟨Nat.le_refl _,u2,u1,by simp, ?_, ?_, ?_⟩
  ·show Wd ((List.replicate (m-n+1) (0:Int)).drop (m-n+1))
   rw[List.drop_of_length_le (by simp)]
   intro y hy;simp at hy
  ·show wv (u.drop (m-n+1))<wv (W.take n)
   rw[d1]
   exact Zpu hm hwa s1 u2 u1 u3 (by omega) (by omega) d3
  ·show wv u=wv (W.take n)*(4294967296^(m-n+1)*wv ((List.replicate (m-n+1) (0:Int)).drop (m-n+1)))+wv u
   rw[List.drop_of_length_le (by simp)]
   simp[wv]
 refine((Zn5 a b u W (List.replicate (m-n+1) 0) n m s (wv u) (by omega) (by omega) (by omega) v2 v1 d2 hD0).ent ?_).mono ?_
 ·refine Zaq rfl rfl ?_ ?_
  ·exact⟨rfl,rfl,⟨rfl,w3,w3⟩,rfl,⟨rfl,by rw[←hm],by rw[←hm]⟩,⟨rfl,(by show n=(b.length:Int).toNat-0;omega),(by show n+1=b.length+1-0;omega)⟩,(by show(n:Int)=(b.length:Int);omega),emn2,trivial⟩
  ·exact⟨⟨rfl,fun _=>rfl⟩,⟨rfl,fun _=>rfl⟩,⟨(by show List.replicate (m-n+1) (0:Int)=List.replicate _ 0;rw[←w3]),fun _=>rfl⟩,trivial⟩
 rintro _ _ _ ⟨rfl,u',q,X,Y,⟨i1,i2,i3,i4,i5,i6,i7⟩,rfl,rfl⟩
 simp only[List.drop_zero,Int.pow_zero,Int.one_mul]at i1 i2 i3 i4 i5 i6 i7
 refine And.intro hn2 ?_
 refine((ZpP u' q n m s s1 (by omega) (by omega) i2 i3).ent ?_).mono ?_
 ·refine Zaq rfl rfl ?_ ?_
  ·exact⟨⟨rfl,rfl,rfl⟩,⟨rfl,(Int.toNat_natCast n).symm,(Int.toNat_natCast n).symm⟩,rfl,⟨rfl,rfl,rfl⟩,rfl,rfl,trivial⟩
  ·exact⟨⟨rfl,fun _=>rfl⟩,trivial,⟨rfl,fun _=>rfl⟩,⟨(by show List.replicate n (0:Int)=List.replicate ((n:Int).toNat) 0;rw[Int.toNat_natCast]),fun _=>rfl⟩,trivial⟩
 rintro _ _ _ ⟨rfl,r',X2,⟨r1,r2,r3⟩,rfl,rfl⟩
 refine And.intro (by show 0+(m-n+1)≤q.length;omega) ?_
 refine And.intro (by show 0+n≤r'.length;omega) ?_
 have sq:sub q 0 (m-n+1)=q:=by rw[sub,List.drop_zero,List.take_of_length_le (by omega)]
 have sr:sub r' 0 n=r':=by rw[sub,List.drop_zero,List.take_of_length_le (by omega)]
 have hun:=wvn i3
 obtain⟨z1,z2⟩:=Znj (A:=(A:Int)) (B:=(B:Int)) (Q:=wv q) (R:=wv u') (s:=s) (by omega) (by rw[←hva,←hvb,←u3,←d1];exact i7) hun (by rw[←hvb,←d1];exact i6)
 have hDn:wv (W.take n)<4294967296^n:=by
  have:=(ZaL (v1.take n)).2
  rw[List.length_take,Nat.min_eq_left (by omega)]at this
  exact this
 have hzn:=Zgw (n:=n) i3 (by omega)
 have hlt:n<u'.length:=by omega
 have hcd:=ZbR hlt
 have hn0:=i3 _ (List.getElem_mem hlt)
 have hn3:=wvn (i3.drop (n+1))
 have hu0:u'[n]! =0:=by rw[getElem!_pos u' n hlt];omega
 have hut:wv (u'.take (n+1))=wv u':=by
  have:=seg u' (n+1) (by omega)
  have hz:wv (u'.drop (n+1))=0:=by omega
  rw[hz,Int.mul_zero]at this
  omega
 rw[hu0,hut,z2,Int.zero_ediv,Int.mul_zero,Int.add_zero]at r3
 refine .inl ⟨sub q 0 (m-n+1),sub r' 0 n,rfl,by rw[sq];exact i5,by rw[sr];exact r2,by rw[sq];omega,by rw[sr];omega, ?_, ?_⟩
 ·rw[sq,z1];rfl
 ·rw[sr,r3];rfl
end Go.Proofs.YtdnodlkdndfplaaGreatDoor
