/- Steps and lemmas for the walks. -/
import Derived.Test.YteehplloacefmaaGreatCa
set_option linter.unusedVariables false
set_option linter.unusedSimpArgs false
set_option maxRecDepth 100000
namespace Go.Proofs.YteehplloacefmaaGreat
open Go.Vc
theorem sO {key val:List UInt8} {seq kind:Int} (h:((((decide ((key.length:Int) < 1) || decide ((32:Int) < key.length)) || decide (seq < 1)) || decide (2147483647 < seq)) || decide ((65536:Int) < val.length))=true):cS (key,seq,kind,val)=false:=by
  simp only [Bool.or_eq_true,decide_eq_true_eq] at h
  rw [Bool.eq_false_iff];intro hm
  simp only [cS,Bool.and_eq_true,decide_eq_true_eq] at hm
  omega
theorem sP {key val:List UInt8} {seq kind:Int} (h:((((decide ((key.length:Int) < 1) || decide ((32:Int) < key.length)) || decide (seq < 1)) || decide (2147483647 < seq)) || decide ((65536:Int) < val.length))=false) :
    cS (key,seq,kind,val)=(decide (kind=1) || (decide (kind=2) && decide ((val.length:Int)=0))):=by
  simp only [Bool.or_eq_false_iff,decide_eq_false_iff_not] at h
  have le:∀ (l:List UInt8),l.isEmpty=decide ((l.length:Int)=0):=fun l=>by cases l <;> simp <;> omega
  simp only [cS,le]
  rw [decide_eq_true (show 1≤key.length by omega),decide_eq_true (show key.length≤32 by omega),decide_eq_true (show 1≤seq by omega),decide_eq_true (show seq≤2147483647 by omega),decide_eq_true (show val.length≤65536 by omega)]
  simp
theorem nV {w:World} {F:Nat→Prop} {v:Value} {a:dS} (HG1:aY fd w F v a):ae Tryz.prog 104 #[v] w (fun o w'=>o=.bool (cS a)∧aX w w'):=by
 obtain ⟨key,seq,kind,val⟩:=a
 obtain ⟨a1,c1,a2,c2,rfl,HS1,HS2,hi1,hi2⟩:=HG1.ik
 clear HG1
 simp only [] at HS1 HS2 hi1 hi2 ⊢
 refine aL 43 Tryz.func104 Z Z (by simp) ?_
 refine V ?_
 have E:=ao.refl (K:=aP) w
 replace HS1:=HS1.all
 replace HS2:=HS2.all
 refine O zd (ah (aS (aZ Z) ?_))
 rintro b1 w1 zb1 HB1 e1 z1
 have:=e1.size
 try simp only [Value.cells] at HB1
 refine aa (ad Z) (ac (U (V (V (O zd (aa (aA 0 28 Z) (aa (ag zk Z (by first | exact HB1.pv 0 _ rfl | assumption)) ?_)))))))
 refine aa (ba (et:=5) zk Z) ?_
 refine aa (bw Z Z) ?_
 refine aa (bH Z) (aj Z Z (fun hG=>aA 0 28 Z) ?_)
 refine aj Z Z (fun hG=>ag zk (gd hG Z) (by first | exact HB1.pv 0 _ rfl | assumption)) ?_
 refine aj Z Z (fun hG=>ba (et:=5) zk (gd hG Z)) ?_
 refine aj Z Z (fun hG=>bX (gd hG Z) Z) ?_
 refine aa (bF Z Z) ?_
 refine aa (bH Z) (aj Z Z (fun hG=>aA 1 2 Z) ?_)
 refine aj Z Z (fun hG=>ag zk (gd hG Z) (by first | exact HB1.pv 1 _ rfl | assumption)) ?_
 refine aj Z Z (fun hG=>bw (gd hG Z) Z) ?_
 refine aa (bF Z Z) ?_
 refine aa (bH Z) (aj Z Z (fun hG=>aA 1 2 Z) ?_)
 refine aj Z Z (fun hG=>ag zk (gd hG Z) (by first | exact HB1.pv 1 _ rfl | assumption)) ?_
 refine aj Z Z (fun hG=>bX (gd hG Z) Z) ?_
 refine aa (bF Z Z) ?_
 refine aa (bH Z) (aj Z Z (fun hG=>aA 3 28 Z) ?_)
 refine aj Z Z (fun hG=>ag zk (gd hG Z) (by first | exact HB1.pv 3 _ rfl | assumption)) ?_
 refine aj Z Z (fun hG=>ba (et:=5) zk (gd hG Z)) ?_
 refine aj Z Z (fun hG=>bX (gd hG Z) Z) ?_
 refine aa (bF Z Z) ?_
 replace E:=E.trans e1.keep
 replace HS1:=HS1.ext e1
 replace HS2:=HS2.ext e1
 refine ac (U (am Z Z (fun hc=>?_) (fun hc=>?_)))
 ·
  refine V (O zd (aa (ad Z) (ac (U (aw (ay (aU Z zq (cE Z) ?_)))))))
  exact ⟨by rw [sO hc],E⟩
 refine ar (U (V (O zd (aa (aA 2 154 Z) (aa (ag zk Z (by first | exact HB1.pv 2 _ rfl | assumption)) ?_)))))
 refine aa (aJ Z Z) ?_
 refine aa (bH Z) (aj Z Z (fun hG=>aA 2 154 Z) ?_)
 refine aj Z Z (fun hG=>ag zk (gd hG Z) (by first | exact HB1.pv 2 _ rfl | assumption)) ?_
 refine aj Z Z (fun hG=>aJ (gd hG Z) Z) ?_
 refine aj Z Z (fun hG=>be (t:=.bool _) (gd hG Z)) ?_
 refine gX Z Z (fun hG=>aA 3 28 Z) ?_
 refine gX Z Z (fun hG=>ag zk (gd hG Z) (by first | exact HB1.pv 3 _ rfl | assumption)) ?_
 refine gX Z Z (fun hG=>ba (et:=5) zk (gd hG Z)) ?_
 refine gX Z Z (fun hG=>aJ (gd hG Z) Z) ?_
 refine aj Z Z (fun hG=>bu (gd hG Z) (sY hG Z)) ?_
 refine aa (bF Z Z) ?_
 refine aa (dl Z) (ac (U (aw (aU Z zq (cE Z) ?_))))
 exact ⟨by rw [sP hc],E⟩
theorem mn {w:World} {F:Nat→Prop} {v:Value} {a:dS} {b:Bool} (HG1:aY fd w F v a) (hb:cS a=b):ae Tryz.prog 104 #[v] w (fun o w'=>o=.bool b∧aX w w'):=by subst hb;exact nV HG1
theorem mZ {w:World} {F G:Nat→Prop} {v u:Value} {x y:List UInt8} (HS1:Bv w F v x) (HS2:Bv w G u y):ae Tryz.prog 136 #[v,u] w (fun r w'=>r=.int .i64 (fm x y)∧aX w w'):=by
  obtain ⟨a,c,rfl⟩:=HS1.shape
  obtain ⟨b,d,rfl⟩:=HS2.shape
  refine aL 8 Tryz.func136 Z Z (by simp) ?_
  refine V ?_
  have E:=ao.refl (K:=aP) w
  replace HS1:=HS1.all
  replace HS2:=HS2.all
  refine O zd (aa (ad Z) (ac (U (V (O zd (aa (bP Z) (aa (bP Z) (ah (aW zk (bI Z) (bI Z) (ae.mono (ip HS1 HS2) ?_))))))))))
  rintro _ w101 ⟨rfl,e101⟩
  have:=e101.size
  refine aa (bO Z) (ac (U (aw (aU Z zq (bB Z) ?_))))
  replace E:=E.trans e101.keep
  exact ⟨rfl,E⟩
theorem qu {w:World} {n:Int}:ae Tryz.prog 138 #[.int .i64 n] w (fun r w'=>r=.bool false∧aX w w'):=by
  refine aL 6 Tryz.func138 Z Z (by simp) ?_
  refine V ?_
  have E:=ao.refl (K:=aP) w
  refine O zd (aa (ad Z) (ac (U (V (O zd (aa (aQ Z) (aa (aQ Z) (aa (bD Z Z) ?_))))))))
  refine aa (dl Z) (ac (U (aw (aU Z zq (cE Z) ?_))))
  refine ⟨?_,E⟩
  simp
def oa (a b:Int):Int:=if a < b then -1 else if b < a then 1 else 0
theorem ob {w:World} {n m:Int}:ae Tryz.prog 137 #[.int .i64 n,.int .i64 m] w (fun r w'=>r=.int .i64 (oa n m)∧aX w w'):=by
 refine aL 20 Tryz.func137 Z Z (by simp) ?_
 refine V ?_
 have E:=ao.refl (K:=aP) w
 refine O zd (aa (ad Z) (ac (U (V (O zd (aa (aQ Z) (ah (av zk (bB Z) (ae.mono (qu) ?_)))))))))
 rintro _ w101 ⟨rfl,e101⟩
 have:=e101.size
 refine aa (dl Z) (ac (U (V (O zd (aa (aQ Z) (ah (av zk (bB Z) (ae.mono (qu) ?_))))))))
 rintro _ w102 ⟨rfl,e102⟩
 have:=e102.size
 replace E:=(E.trans e101.keep).trans e102.keep
 refine aa (dl Z) (ac (U (V (V (O zd (aa (bH Z) (ac (U (am Z Z (fun h1=>?_) (fun h1=>?_))))))))))
 ·
  cases h1
 refine ar (U (V (V (O zd (aa (bH Z) (ac (U (am Z Z (fun h2=>?_) (fun h2=>?_)))))))))
 ·
  cases h2
 refine ar (U (V (V (O zd (aa (aQ Z) (aa (aQ Z) (aa (bw Z Z) ?_)))))))
 refine ac (U (am Z Z (fun h3=>?_) (fun h3=>?_)))
 ·
  refine V (O zd (aa (ad Z) (ac (U (aw (ay (aU Z zq (bB Z) ?_)))))))
  exact ⟨by rw [oa,if_pos (bl h3)],E⟩
 refine ar (U (V (V (O zd (aa (aQ Z) (aa (aQ Z) (aa (bX Z Z) ?_)))))))
 refine ac (U (am Z Z (fun h4=>?_) (fun h4=>?_)))
 ·
  refine V (O zd (aa (ad Z) (ac (U (aw (ay (aU Z zq (bB Z) ?_)))))))
  exact ⟨by rw [oa,if_neg (bf h3),if_pos (bl h4)],E⟩
 refine ar (U (V (O zd (aa (ad Z) (ac (U (aw (aU Z zq (bB Z) ?_))))))))
 exact ⟨by rw [oa,if_neg (bf h3),if_neg (bf h4)],E⟩
def uQ:List Int→Int
  | []=>0
  | x :: l=>if x=0 then uQ l else x
theorem Or_c {w:World} {F:Nat→Prop} {v:Value} {xs:List Int} (HS1:bs (dL .i64) w F v xs):ae Tryz.prog 135 #[v] w (fun r w'=>r=.int .i64 (uQ xs)∧aX w w'):=by
 obtain ⟨a,c,rfl⟩:=HS1.shape
 have hmx:=HS1.len_max
 refine aL 18 Tryz.func135 Z Z (by simp) ?_
 refine V ?_
 have E:=ao.refl (K:=aP) w
 replace HS1:=HS1.all
 refine O zd (aa (ad Z) (ac (U (V (O zd (aa (ad Z) (ac (U (V ?_)))))))))
 refine V (O zd (aa (bP Z) (aa (ba (et:=3) zk Z) ?_)))
 refine aa (be Z) (ac (U (aO (cy (τ:=Nat) [2,5,8,9,10,11,12,13,14,15,16] (fun i=>[(8,.int .i64 i)]) (fun i W=>aX w W∧ao (aP) w W∧i≤xs.length∧uQ xs=uQ (xs.drop i)) (fun i=>xs.length - i) 0 (by exact ⟨rfl,trivial⟩) (by exact ⟨E,ao.refl _,Nat.zero_le _,rfl⟩) ?_))))
 rintro i w101 j ⟨E,EL1,h1,h2⟩
 have:=EL1.size
 refine V (O zd (aa (bw Z Z) ?_))
 replace HS1:=HS1.ext EL1
 refine ac (U (V (am Z Z (fun hlt=>?_) (fun hlt=>?_))))
 ·
  have hlt:=bl hlt
  obtain ⟨x,hx,hdr⟩:=eC (l:=xs) (i:=i) zo
  obtain ⟨q,cs,hq,hF,_,HPq,hr⟩:=HS1.el hx
  subst hq
  obtain ⟨rfl,_⟩:=hr
  refine ar (U (V (aO (V (O zd (aa (aF (et:=3) (sz:=1) (k:=i) zk zk Z Z (by first | rfl | omega) zo) ?_))))))
  refine aa (ag zk Z (by first | exact aK HPq | assumption)) ?_
  refine aa (bO Z) (ac (U (V (O zd (aa (aQ Z) (aa (aQ Z) (aa (bD Z Z) ?_)))))))
  refine ac (U (am Z Z (fun hn=>?_) (fun hn=>?_)))
  ·
   refine V (O zd (aa (aQ Z) (aa (bO Z) (ac (U (aw (bz (ay (ay ?_)))))))))
   refine bz (ay (aU Z zq (bB Z) ?_))
   refine ⟨?_,E⟩
   rw [h2,hdr,uQ,if_neg (by simpa using hn)]
  refine ar (bE (U (O zd (aa (cn Z Z (by first | exact bn zo zo | rfl)) ?_))))
  refine aa (aQ Z) (ac (U (⟨i + 1,_,rfl,by (repeat (first | exact cD.of_over _ _ _ | refine cD.upd ?_ zq _ | refine cD.overs ?_ zq _)),⟨by first | rfl | exact congrArg (Value.int _) zo | (simp;done),trivial⟩,⟨E,EL1,?_⟩,?_⟩)))
  ·
   refine ⟨by omega,?_⟩
   rw [h2,hdr,uQ,if_pos (by simpa using hn)]
  (dsimp only;omega)
 refine cl (bm (bm (cV (U (V (O zd (aa (aQ Z) (aa (bO Z) (ac ?_)))))))))
 refine U (aw (aU Z zq (bB Z) ?_))
 refine ⟨?_,E⟩
 rw [h2,List.drop_eq_nil_of_le (by have:=bf hlt;omega)];rfl
theorem vo (a b:dS):uQ [fm a.1 b.1,oa b.2.1 a.2.1]=lg a b:=by
  simp only [uQ,oa,lg]
  by_cases h1:b.2.1 < a.2.1 <;> by_cases h2:a.2.1 < b.2.1 <;> simp [h1,h2]
theorem mo {w:World} {F G:Nat→Prop} {v u:Value} {a b:dS} (HG1:aY fd w F v a) (HG2:aY fd w G u b):ae Tryz.prog 134 #[v,u] w (fun o w'=>o=.int .i64 (lg a b)∧aX w w'):=by
 obtain ⟨a1,c1,a2,c2,rfl,HS1,HS2,hi1,hi2⟩:=HG1.ik
 obtain ⟨a3,c3,a4,c4,rfl,HS3,HS4,hi3,hi4⟩:=HG2.ik
 clear HG1 HG2
 have hc1:(Lit.int .i64 (fm a.1 b.1)).wf=true:=by unfold fm;split <;> (try split) <;> decide
 have hc2:(Lit.int .i64 (oa b.2.1 a.2.1)).wf=true:=by unfold oa;split <;> (try split) <;> decide
 refine aL 17 Tryz.func134 Z Z (by simp) ?_
 refine V ?_
 have E:=ao.refl (K:=aP) w
 replace HS1:=HS1.all
 replace HS3:=HS3.all
 refine O zd (ah (aS (aZ Z) ?_))
 rintro b1 w1 zb1 HB1 e1 z1
 have:=e1.size
 try simp only [Value.cells] at HB1
 refine ah (aS (aZ Z) ?_)
 rintro b2 w2 zb2 HB2 e2 z2
 have:=e2.size
 try simp only [Value.cells] at HB2
 refine aa (ad Z) (ac (U (V (cN zk ?_))))
 have e101:aX w2 { w2 with drawn:=w2.drawn + 1 }:=ao.drawn _ _
 generalize hw101:({ w2 with drawn:=w2.drawn + 1 }:World)=w101 at e101 ⊢
 clear hw101
 have:=e101.size
 refine bT 9 Z zd zd zd ?_
 refine cf (aP) zd zd ?_
 refine aB (fun ab w hR hd=>aA 0 28 Z) ?_
 replace HB1:=(HB1.ext e2).ext e101
 replace HB2:=HB2.ext e101
 refine aB (fun ab w hR hd=>ag zk (hd 0 Z) (by first | exact (HB2.ext hR).pv 0 _ rfl | exact (HB1.ext hR).pv 0 _ rfl | assumption)) ?_
 refine aB (fun ab w hR hd=>aA 0 28 Z) ?_
 refine aB (fun ab w hR hd=>ag zk (hd 2 Z) (by first | exact (HB2.ext hR).pv 0 _ rfl | exact (HB1.ext hR).pv 0 _ rfl | assumption)) ?_
 replace HS1:=((HS1.ext e1).ext e2).ext e101
 replace HS3:=((HS3.ext e1).ext e2).ext e101
 refine kY (fun ab w hR hd=>aW zk (hd 1 Z) (hd 3 Z) (mZ (HS1.ext hR) (HS3.ext hR))) ?_
 refine aB (fun ab w hR hd=>aA 1 2 Z) ?_
 refine aB (fun ab w hR hd=>ag zk (hd 5 Z) (by first | exact (HB2.ext hR).pv 1 _ rfl | exact (HB1.ext hR).pv 1 _ rfl | assumption)) ?_
 refine aB (fun ab w hR hd=>aA 1 2 Z) ?_
 refine aB (fun ab w hR hd=>ag zk (hd 7 Z) (by first | exact (HB2.ext hR).pv 1 _ rfl | exact (HB1.ext hR).pv 1 _ rfl | assumption)) ?_
 refine bU (fun w102 e102=>?_)
 rintro _ rfl _ rfl _ rfl _ rfl _ rfl _ rfl _ rfl _ rfl _ rfl
 have:=e102.size
 refine bG (U (bT 1 Z zd zd zd ?_))
 refine bZ zd Z ?_
 refine ah (aW zk (bB Z) (bB Z) (ae.mono (ob) ?_))
 rintro _ w103 ⟨rfl,e103⟩
 have:=e103.size
 refine ac (U (bT 1 Z zd zd zd ?_))
 refine bZ zd Z ?_
 refine ah (cz (t:=dL .i64) (xs:=[fm a.1 b.1,oa b.2.1 a.2.1]) (et:=3) (bytes:=8) (zl:=[.int .i64 0,.int .i64 0]) zk zq zq (by unfold cQ;kernel_rfl) Z (cells:=[_,_]) Z Z Z ((nb (t:=dL .i64) (F:=aP) (c1:=[_]) (c2:=[_]) ⟨rfl,hc1⟩ ⟨rfl,hc2⟩)) ?_)
 rintro b10 w10 zb10 HO10 e10 z10
 have:=e10.size
 have zo_HO10:=fun (b:Nat) h=>HO10.own_lt (b:=b) h
 refine ac (U (bT 1 Z zd zd zd ?_))
 refine bZ zd Z ?_
 refine ah (av zk (bI Z) (ae.mono (Or_c HO10.view) ?_))
 rintro _ w104 ⟨rfl,e104⟩
 have:=e104.size
 refine ac (U (bZ zd Z ?_))
 refine aa (bO Z) (ac (U (aw (aU Z zq (bB Z) ?_))))
 replace E:=((((((E.trans e1.keep).trans e2.keep).trans e101.keep).trans e102.keep).trans e103.keep).trans e10.keep).trans e104.keep
 exact ⟨by rw [vo],E⟩
theorem tu {w:World} {F G:Nat→Prop} {v u:Value} {l:List dS} {e:dS} (HS1:bs fd w F v l) (HG2:aY fd w G u e):ae Tryz.prog 133 #[v,u] w (fun o w'=>o=.bool (oZ l e)∧aX w w'):=by
 obtain ⟨a,c,rfl⟩:=HS1.shape
 have hmx:=HS1.len_max
 obtain ⟨cs2,rfl,hr2⟩:=HG2
 obtain ⟨a1,c1,a2,c2,rfl,_⟩:=eN hr2
 have HG2:aY fd w G _ e:=⟨_,rfl,hr2⟩
 by_cases hm:cS e=true
 ·
  cases hg:l.getLast? with
  | none=>
   have hl:l=[]:=by simpa using hg
   refine aL 23 Tryz.func133 Z Z (by simp) ?_
   refine V ?_
   have E:=ao.refl (K:=aP) w
   replace HS1:=HS1.all
   replace HG2:=HG2.all
   refine O zd (ah (aS (aZ Z) ?_))
   rintro b1 w1 zb1 HB1 e1 z1
   have:=e1.size
   try simp only [Value.cells] at HB1
   refine aa (ad Z) (ac (U (V (dx (aP) zk zd zd ?_))))
   refine aB (fun ab w hR hd=>ap zk Z (by first | exact (HB1.ext hR).pv | assumption) Z) ?_
   replace HG2:=HG2.ext e1
   refine kY (fun ab w hR hd=>av zk (hd 0 Z) (mn (HG2.ext hR) hm)) ?_
   refine aB (fun ab w hR hd=>be (t:=.bool _) (hd 1 Z)) ?_
   refine dw Z (fun ab w hd=>hd 2 Z) (fun ab w hR hd=>bP Z) ?_
   refine dw Z (fun ab w hd=>hd 2 Z) (fun ab w hR hd=>ba (et:=156) zk (hd 3 Z)) ?_
   refine dw Z (fun ab w hd=>hd 2 Z) (fun ab w hR hd=>aG.as (b:=true) (aJ (hd 4 Z) Z) (by subst hl;rfl)) ?_
   refine dw Z (fun ab w hd=>hd 2 Z) (fun ab w hR hd=>be (t:=.bool _) (hd 5 Z)) ?_
   refine bJ (u:=.bool true) Z (fun ab w hd=>hd 6 Z) Z ?_
   refine bJ (u:=.bool true) Z (fun ab w hd=>hd 6 Z) Z ?_
   refine bJ (u:=.bool true) Z (fun ab w hd=>hd 6 Z) Z ?_
   refine bJ (u:=.bool true) Z (fun ab w hd=>hd 6 Z) Z ?_
   refine bJ (u:=.bool true) Z (fun ab w hd=>hd 6 Z) Z ?_
   refine bJ (u:=.bool true) Z (fun ab w hd=>hd 6 Z) Z ?_
   refine bJ (u:=.bool true) Z (fun ab w hd=>hd 6 Z) Z ?_
   refine bJ (u:=.bool true) Z (fun ab w hd=>hd 6 Z) Z ?_
   refine bJ (u:=.bool true) Z (fun ab w hd=>hd 6 Z) Z ?_
   refine dw Z (fun ab w hd=>hd 2 Z) (fun ab w hR hd=>uJ (hd 6 Z)) ?_
   refine aB (fun ab w hR hd=>dn (hd 2 Z) (hd 16 Z)) ?_
   refine aB (fun ab w hR hd=>ad (t:=.bool _) (hd 17 Z)) ?_
   refine bU (fun w101 e101=>?_)
   rintro _ rfl _ rfl _ rfl _ rfl _ rfl _ rfl _ rfl _ rfl _ rfl _ rfl _ rfl _ rfl _ rfl _ rfl _ rfl _ rfl _ rfl _ rfl _ rfl
   have:=e101.size
   refine bG (U (aw (aU Z zq (cE Z) ?_)))
   replace E:=(E.trans e1.keep).trans e101.keep
   refine ⟨?_,E⟩
   replace HS1:=(HS1.ext e1).ext e101
   replace HG2:=HG2.ext e101
   replace HB1:=HB1.ext e101
   rw [oZ,hg,hm];subst hl;rfl
  | some d=>
   have hlt:0 < l.length:=by cases l with | nil=>cases hg | cons=>simp
   have hx:l[l.length - 1]? = some d:=by rw [← hg,List.getLast?_eq_getElem?]
   obtain ⟨q,cs,rfl,hF,_,HPq,hr⟩:=HS1.el hx
   obtain ⟨a3,c3,a4,c4,rfl,_⟩:=eN hr
   have HG3:aY fd w F _ d:=⟨_,rfl,hr⟩
   refine aL 23 Tryz.func133 Z Z (by simp) ?_
   refine V ?_
   have E:=ao.refl (K:=aP) w
   replace HS1:=HS1.all
   replace HG2:=HG2.all
   replace HG3:=HG3.all
   refine O zd (ah (aS (aZ Z) ?_))
   rintro b1 w1 zb1 HB1 e1 z1
   have:=e1.size
   try simp only [Value.cells] at HB1
   refine aa (ad Z) (ac (U ?_))
   replace E:=E.trans e1.keep
   replace HS1:=HS1.ext e1
   replace HG2:=HG2.ext e1
   replace HG3:=HG3.ext e1
   replace HPq:=HPq.ext e1
   by_cases hq:lg d e < 0
   ·
    refine V (dx (aP) zk zd zd ?_)
    refine aB (fun ab w hR hd=>ap zk Z (by first | exact (HB1.ext hR).pv | exact (HPq.ext hR) | assumption) Z) ?_
    refine kY (fun ab w hR hd=>av zk (hd 0 Z) (mn (HG2.ext hR) hm)) ?_
    refine aB (fun ab w hR hd=>be (t:=.bool _) (hd 1 Z)) ?_
    refine dw Z (fun ab w hd=>hd 2 Z) (fun ab w hR hd=>bP Z) ?_
    refine dw Z (fun ab w hd=>hd 2 Z) (fun ab w hR hd=>ba (et:=156) zk (hd 3 Z)) ?_
    refine dw Z (fun ab w hd=>hd 2 Z) (fun ab w hR hd=>aG.as (b:=false) (aJ (hd 4 Z) Z) (by rw [decide_eq_false_iff_not];omega)) ?_
    refine dw Z (fun ab w hd=>hd 2 Z) (fun ab w hR hd=>be (t:=.bool _) (hd 5 Z)) ?_
    refine dw Z (fun ab w hd=>hd 6 Z) (fun ab w hR hd=>bP Z) ?_
    refine dw Z (fun ab w hd=>hd 6 Z) (fun ab w hR hd=>bP Z) ?_
    refine dw Z (fun ab w hd=>hd 6 Z) (fun ab w hR hd=>ba (et:=156) zk (hd 8 Z)) ?_
    refine dw Z (fun ab w hd=>hd 6 Z) (fun ab w hR hd=>iE (hd 9 Z) Z (by first | exact bn zo zo | rfl)) ?_
    refine dw Z (fun ab w hd=>hd 6 Z) (fun ab w hR hd=>aF (et:=156) (sz:=4) (k:=l.length - 1) zk zk (hd 7 Z) (hd 10 Z) (by first | rfl | omega) zo) ?_
    refine dw Z (fun ab w hd=>hd 6 Z) (fun ab w hR hd=>ap zk (hd 11 Z) (by first | exact (HB1.ext hR).pv | exact (HPq.ext hR) | assumption) Z) ?_
    refine dw Z (fun ab w hd=>hd 6 Z) (fun ab w hR hd=>ap zk Z (by first | exact (HB1.ext hR).pv | exact (HPq.ext hR) | assumption) Z) ?_
    refine so Z (fun ab w hd=>hd 6 Z) (fun ab w hR hd=>aW zk (hd 12 Z) (hd 13 Z) (mo (HG3.ext hR) (HG2.ext hR))) ?_
    refine dw Z (fun ab w hd=>hd 6 Z) (fun ab w hR hd=>aG.as (b:=true) (bw (hd 14 Z) Z) (decide_eq_true hq)) ?_
    refine dw Z (fun ab w hd=>hd 2 Z) (fun ab w hR hd=>r9 (hd 6 Z) (hd 15 Z)) ?_
    refine aB (fun ab w hR hd=>dn (hd 2 Z) (hd 16 Z)) ?_
    refine aB (fun ab w hR hd=>ad (t:=.bool _) (hd 17 Z)) ?_
    refine bU (fun w101 e101=>?_)
    rintro _ rfl _ rfl _ rfl _ rfl _ rfl _ rfl _ rfl _ rfl _ rfl _ rfl _ rfl _ rfl _ rfl _ rfl _ rfl _ rfl _ rfl _ rfl _ rfl
    have:=e101.size
    refine bG (U (aw (aU Z zq (cE Z) ?_)))
    replace E:=E.trans e101.keep
    refine ⟨?_,E⟩
    rw [oZ,hg,hm]
    simp only [Bool.true_and]
    rw [oX.1 hq]
   refine V (dx (aP) zk zd zd ?_)
   refine aB (fun ab w hR hd=>ap zk Z (by first | exact (HB1.ext hR).pv | exact (HPq.ext hR) | assumption) Z) ?_
   refine kY (fun ab w hR hd=>av zk (hd 0 Z) (mn (HG2.ext hR) hm)) ?_
   refine aB (fun ab w hR hd=>be (t:=.bool _) (hd 1 Z)) ?_
   refine dw Z (fun ab w hd=>hd 2 Z) (fun ab w hR hd=>bP Z) ?_
   refine dw Z (fun ab w hd=>hd 2 Z) (fun ab w hR hd=>ba (et:=156) zk (hd 3 Z)) ?_
   refine dw Z (fun ab w hd=>hd 2 Z) (fun ab w hR hd=>aG.as (b:=false) (aJ (hd 4 Z) Z) (by rw [decide_eq_false_iff_not];omega)) ?_
   refine dw Z (fun ab w hd=>hd 2 Z) (fun ab w hR hd=>be (t:=.bool _) (hd 5 Z)) ?_
   refine dw Z (fun ab w hd=>hd 6 Z) (fun ab w hR hd=>bP Z) ?_
   refine dw Z (fun ab w hd=>hd 6 Z) (fun ab w hR hd=>bP Z) ?_
   refine dw Z (fun ab w hd=>hd 6 Z) (fun ab w hR hd=>ba (et:=156) zk (hd 8 Z)) ?_
   refine dw Z (fun ab w hd=>hd 6 Z) (fun ab w hR hd=>iE (hd 9 Z) Z (by first | exact bn zo zo | rfl)) ?_
   refine dw Z (fun ab w hd=>hd 6 Z) (fun ab w hR hd=>aF (et:=156) (sz:=4) (k:=l.length - 1) zk zk (hd 7 Z) (hd 10 Z) (by first | rfl | omega) zo) ?_
   refine dw Z (fun ab w hd=>hd 6 Z) (fun ab w hR hd=>ap zk (hd 11 Z) (by first | exact (HB1.ext hR).pv | exact (HPq.ext hR) | assumption) Z) ?_
   refine dw Z (fun ab w hd=>hd 6 Z) (fun ab w hR hd=>ap zk Z (by first | exact (HB1.ext hR).pv | exact (HPq.ext hR) | assumption) Z) ?_
   refine so Z (fun ab w hd=>hd 6 Z) (fun ab w hR hd=>aW zk (hd 12 Z) (hd 13 Z) (mo (HG3.ext hR) (HG2.ext hR))) ?_
   refine dw Z (fun ab w hd=>hd 6 Z) (fun ab w hR hd=>aG.as (b:=false) (bw (hd 14 Z) Z) (decide_eq_false hq)) ?_
   refine dw Z (fun ab w hd=>hd 2 Z) (fun ab w hR hd=>r9 (hd 6 Z) (hd 15 Z)) ?_
   refine aB (fun ab w hR hd=>dn (hd 2 Z) (hd 16 Z)) ?_
   refine aB (fun ab w hR hd=>ad (t:=.bool _) (hd 17 Z)) ?_
   refine bU (fun w102 e102=>?_)
   rintro _ rfl _ rfl _ rfl _ rfl _ rfl _ rfl _ rfl _ rfl _ rfl _ rfl _ rfl _ rfl _ rfl _ rfl _ rfl _ rfl _ rfl _ rfl _ rfl
   have:=e102.size
   refine bG (U (aw (aU Z zq (cE Z) ?_)))
   replace E:=E.trans e102.keep
   refine ⟨?_,E⟩
   rw [oZ,hg,hm]
   simp only [Bool.true_and]
   rw [tq.1 zo]
 refine aL 23 Tryz.func133 Z Z (by simp) ?_
 refine V ?_
 have E:=ao.refl (K:=aP) w
 replace HS1:=HS1.all
 replace HG2:=HG2.all
 refine O zd (ah (aS (aZ Z) ?_))
 rintro b1 w1 zb1 HB1 e1 z1
 have:=e1.size
 try simp only [Value.cells] at HB1
 refine aa (ad Z) (ac (U (V (dx (aP) zk zd zd ?_))))
 refine aB (fun ab w hR hd=>ap zk Z (by first | exact (HB1.ext hR).pv | assumption) Z) ?_
 replace HG2:=HG2.ext e1
 refine kY (fun ab w hR hd=>av zk (hd 0 Z) (mn (HG2.ext hR) (Bool.eq_false_iff.2 hm))) ?_
 refine aB (fun ab w hR hd=>be (t:=.bool _) (hd 1 Z)) ?_
 refine bJ (u:=.bool false) Z (fun ab w hd=>hd 2 Z) Z ?_
 refine bJ (u:=.bool false) Z (fun ab w hd=>hd 2 Z) Z ?_
 refine bJ (u:=.bool false) Z (fun ab w hd=>hd 2 Z) Z ?_
 refine bJ (u:=.bool false) Z (fun ab w hd=>hd 2 Z) Z ?_
 refine bJ (u:=undef) Z (fun ab w hd=>hd 6 Z) Z ?_
 refine bJ (u:=undef) Z (fun ab w hd=>hd 6 Z) Z ?_
 refine bJ (u:=undef) Z (fun ab w hd=>hd 6 Z) Z ?_
 refine bJ (u:=undef) Z (fun ab w hd=>hd 6 Z) Z ?_
 refine bJ (u:=undef) Z (fun ab w hd=>hd 6 Z) Z ?_
 refine bJ (u:=undef) Z (fun ab w hd=>hd 6 Z) Z ?_
 refine bJ (u:=undef) Z (fun ab w hd=>hd 6 Z) Z ?_
 refine bJ (u:=undef) Z (fun ab w hd=>hd 6 Z) Z ?_
 refine bJ (u:=undef) Z (fun ab w hd=>hd 6 Z) Z ?_
 refine bJ (u:=.bool false) Z (fun ab w hd=>hd 2 Z) Z ?_
 refine aB (fun ab w hR hd=>fG (hd 2 Z)) ?_
 refine aB (fun ab w hR hd=>ad (t:=.bool _) (hd 17 Z)) ?_
 refine bU (fun w101 e101=>?_)
 rintro _ rfl _ rfl _ rfl _ rfl _ rfl _ rfl _ rfl _ rfl _ rfl _ rfl _ rfl _ rfl _ rfl _ rfl _ rfl _ rfl _ rfl _ rfl _ rfl
 have:=e101.size
 refine bG (U (aw (aU Z zq (cE Z) ?_)))
 replace E:=(E.trans e1.keep).trans e101.keep
 refine ⟨?_,E⟩
 rw [oZ,Bool.eq_false_iff.2 hm];rfl
theorem wv {x x' y y':List UInt8} {n n' k k':Int}:decide ((x,n,k,y)=((x',n',k',y'):dS))=(decide (x=x') && decide (n=n') && decide (k=k') && decide (y=y')):=by
  rw [Bool.eq_iff_iff];simp [and_assoc]
theorem uj {w:World} {F G:Nat→Prop} {v u:Value} {a b:dS} (HG1:aY fd w F v a) (HG2:aY fd w G u b):ae Tryz.prog 119 #[v,u] w (fun o w'=>o=.bool (decide (a=b))∧aX w w'):=by
 obtain ⟨a1,c1,a2,c2,rfl,HS1,HS2,hi1,hi2⟩:=HG1.ik
 obtain ⟨a3,c3,a4,c4,rfl,HS3,HS4,hi3,hi4⟩:=HG2.ik
 obtain ⟨x,n,k,y⟩:=a
 obtain ⟨x',n',k',y'⟩:=b
 clear HG1 HG2
 refine aL 31 Tryz.func119 Z Z (by simp) ?_
 refine V ?_
 have E:=ao.refl (K:=aP) w
 replace HS1:=HS1.all
 replace HS2:=HS2.all
 replace HS3:=HS3.all
 replace HS4:=HS4.all
 refine O zd (ah (aS (aZ Z) ?_))
 rintro b1 w1 zb1 HB1 e1 z1
 have:=e1.size
 try simp only [Value.cells] at HB1
 refine ah (aS (aZ Z) ?_)
 rintro b2 w2 zb2 HB2 e2 z2
 have:=e2.size
 try simp only [Value.cells] at HB2
 replace HB1:=HB1.ext e2
 refine aa (ad Z) (ac (U (V (O zd (aa (aA 0 28 Z) (aa (ag zk Z (by first | exact HB2.pv 0 _ rfl | exact HB1.pv 0 _ rfl | assumption)) ?_))))))
 refine aa (aA 0 28 Z) (aa (ag zk Z (by first | exact HB2.pv 0 _ rfl | exact HB1.pv 0 _ rfl | assumption)) ?_)
 replace HS1:=(HS1.ext e1).ext e2
 replace HS3:=(HS3.ext e1).ext e2
 refine ah (aW zk (bI Z) (bI Z) (ae.mono (dI HS1 HS3) ?_))
 rintro _ w101 ⟨rfl,e101⟩
 have:=e101.size
 refine aa (bH Z) (aj Z Z (fun hG=>aA 1 2 Z) ?_)
 replace HB1:=HB1.ext e101
 replace HB2:=HB2.ext e101
 refine aj Z Z (fun hG=>ag zk (gd hG Z) (by first | exact HB2.pv 1 _ rfl | exact HB1.pv 1 _ rfl | assumption)) ?_
 refine aj Z Z (fun hG=>aA 1 2 Z) ?_
 refine aj Z Z (fun hG=>ag zk (gd hG Z) (by first | exact HB2.pv 1 _ rfl | exact HB1.pv 1 _ rfl | assumption)) ?_
 refine aj Z Z (fun hG=>aJ (gd hG Z) (gd hG Z)) ?_
 refine aa (bu Z Z) ?_
 refine aa (bH Z) (aj Z Z (fun hG=>aA 2 154 Z) ?_)
 refine aj Z Z (fun hG=>ag zk (gd hG Z) (by first | exact HB2.pv 2 _ rfl | exact HB1.pv 2 _ rfl | assumption)) ?_
 refine aj Z Z (fun hG=>aA 2 154 Z) ?_
 refine aj Z Z (fun hG=>ag zk (gd hG Z) (by first | exact HB2.pv 2 _ rfl | exact HB1.pv 2 _ rfl | assumption)) ?_
 refine aj Z Z (fun hG=>aJ (gd hG Z) (gd hG Z)) ?_
 refine aa (bu Z Z) ?_
 refine aa (bH Z) (aj Z Z (fun hG=>aA 3 28 Z) ?_)
 refine aj Z Z (fun hG=>ag zk (gd hG Z) (by first | exact HB2.pv 3 _ rfl | exact HB1.pv 3 _ rfl | assumption)) ?_
 refine aj Z Z (fun hG=>aA 3 28 Z) ?_
 refine aj Z Z (fun hG=>ag zk (gd hG Z) (by first | exact HB2.pv 3 _ rfl | exact HB1.pv 3 _ rfl | assumption)) ?_
 replace HS2:=((HS2.ext e1).ext e2).ext e101
 replace HS4:=((HS4.ext e1).ext e2).ext e101
 refine cI Z Z (fun hG=>aW zk (gd hG Z) (gd hG Z) (dI HS2 HS4)) ?_
 rintro w102 e102
 have:=e102.size
 refine aa (bu Z Z) ?_
 refine aa (dl Z) (ac (U (aw (aU Z zq (cE Z) ?_))))
 replace E:=(((E.trans e1.keep).trans e2.keep).trans e101.keep).trans e102.keep
 refine ⟨?_,E⟩
 rw [wv]
end Go.Proofs.YteehplloacefmaaGreat
namespace Go.Proofs.YteehplloacefmaaGreat
open Go.Vc
theorem o0 {w:World} {F G:Nat→Prop} {v u:Value} {l:List dS} {e:dS} {b:Bool} (HS1:bs fd w F v l) (HG2:aY fd w G u e) (hb:oZ l e=b):ae Tryz.prog 133 #[v,u] w (fun o w'=>o=.bool b∧aX w w'):=by subst hb;exact tu HS1 HG2
theorem sw {w:World} {v:Value}:ae Tryz.prog 129 #[v] w (fun o w'=>∃ b,b=w.heap.size∧o=.func (.func 132) #[] #[.pointer (some ⟨b,0,none⟩)]∧dh w' b v.cells.toList 47∧w'.heap.size=b + 1∧aX w w'):=by
  refine aL 4 Tryz.func129 Z Z (by simp) ?_
  refine V (O zd (ah (aS Z ?_)))
  rintro b1 w1 zb1 hb1 e1 z1
  have:=e1.size
  refine aa (ad Z) (ac (U (V (O zd (aa (cC (by simp [ev];rfl) (by simp [ev];rfl)) ?_)))))
  refine aa (ad Z) (ac (U (aw (ke Z zq ?_))))
  exact ⟨b1,zb1,rfl,hb1,z1,e1⟩
theorem nJ {w0:World} {F K:Nat→Prop} {a:Option Addr} {c b:Nat} {xs:List dS} {css:Nat→List Value} (HS0:bs fd w0 F (.slice a xs.length c) xs) (HB0:dh w0 b [.slice a xs.length c] 47)
    (hcss:∀ i x,xs[i]? = some x→∃ q,a=some q∧F q.block∧q.block < w0.heap.size∧Pv w0 (q.add (i * fd.sz)) (css i)∧fd.rep w0 F (css i) x) (hb:¬ K b) (hF:∀ i,F i→¬ K i) (hFs:∀ i,F i→i < w0.heap.size) :
    SeqStopsK Fence.wide 1 Tryz.prog 132 #[.pointer (some ⟨b,0,none⟩)] (fun x:Fin (gW xs)=>([.agg (css x.val).toArray]:List Value).toArray) (ao K) (fun ys=>ys=List.finRange (gW xs)) (fun pre=>pre <+: List.finRange (gW xs)) (gW xs) w0:=by
 refine sn (encs:=fun x:Fin (gW xs)=>[.agg (css x.val).toArray]) fun l J Jx w hx hJ hJx hY h0=>?_
 refine ae.mono (R:=fun _ W'=>J (List.finRange (gW xs)) W'∨∃ pre,pre <+: List.finRange (gW xs)∧Jx pre W') ?_ fun _ _ h=>h
 show ae _ _ (#[.func (.yield l) #[] #[],.pointer (some ⟨b,0,none⟩)]) w _
 have HS1:=HS0.ext hx
 have HB1:=HB0.ext hx
 have hmx:=HS1.len_max
 have hrk:=nK xs
 have hzx:=hx.size
 have hF0:∀ i,F i→¬ K i:=hF
 have zb0:=HB0.lt
 have hcl:xs.length≤c:=by obtain ⟨_,_,hv,hcl,_⟩:=HS0;cases hv;exact hcl
 refine aL 25 Tryz.func132 Z Z (by simp) ?_
 refine V ?_
 have E:=ao.refl (K:=K) w
 refine O zd (aa (ag zk Z (by first | exact HB1.cell rfl | assumption)) ?_)
 refine aa (ba (et:=156) zk Z) ?_
 refine aa (be Z) (ac (U (aO (cy (τ:=Nat) [3,4,7,8,9,10,11,12,13,14,15,16,17,18,19,20,21,22,23,24] (fun i=>[(7,.int .i64 i)]) (fun i W=>ao (K) w W∧ao (K) w W∧i≤gW xs∧J ((List.finRange (gW xs)).take i) W) (fun i=>xs.length - i) 0 (by exact ⟨rfl,trivial⟩) (by exact ⟨E,ao.refl _,Nat.zero_le _,by rw [List.take_zero];exact h0⟩) ?_))))
 rintro i w101 j ⟨E,EL1,h1,hj⟩
 have:=EL1.size
 refine V ?_
 have hzE:=E.size
 have EL9:=ao.refl (K:=aP) w101
 refine O zd (aa (bw Z Z) ?_)
 replace HS1:=HS1.keep EL1 (by intro i _ hi he;have he0:=he;(try dsimp only [aP,bj] at hi he);(try simp only [Value.ownBlock,Option.some.injEq] at he);first | exact hi.elim | exact he.elim | omega | (rcases hi with hi | hi <;> omega) | (rcases he with he | he <;> omega) | (first | exact hb he | exact hF0 _ hi he | exact hF0 _ hFq he | (have:=hFs _ hi;omega)))
 replace HB1:=HB1.keep EL1 (by intro h;have he0:=h;(try dsimp only at h);(try simp only [Value.ownBlock,Option.some.injEq] at h);first | omega | (have he:=he0;first | exact hb he | exact hF0 _ hi he | exact hF0 _ hFq he | (have:=hFs _ hi;omega)))
 refine ac (U (V (am Z Z (fun hlt=>?_) (fun hlt=>?_))))
 ·
  have hlt:i < xs.length:=by have:=bl hlt;omega
  obtain ⟨x,hx1,hdr⟩:=eC hlt
  obtain ⟨q,rfl,hFq,hql,HPq0,hr0⟩:=hcss i x hx1
  obtain ⟨a1,c1,a2,c2,hcs,_⟩:=eN hr0
  have HPq:=(HPq0.ext hx).keep E (by rw [au];exact hF _ hFq)
  have hr:=fd.keep (fd.keep hr0 hx (fun _ _ _ h=>h)) E (fun _ _ hf=>hF _ hf)
  rw [hcs] at HPq hr
  have HG2:aY fd _ F _ x:=⟨_,rfl,hr⟩
  have HSt:=HS1.pre (h:=i) zo
  refine ar (U (V (aO (V (O zd (aa (aQ Z) (aa (aF (et:=156) (sz:=4) (k:=i) zk zk Z Z (by first | rfl | omega) zo) ?_)))))))
  refine aa (ap zk Z (by first | exact HPq | exact HB1.pv | assumption) Z) ?_
  refine ah (aD (z:=(.agg #[.slice none 0 0,.int .i64 0,.int .i64 0,.slice none 0 0])) (by unfold aE;kernel_rfl) ?_)
  rintro b4 w4 zb4 HB4 e4 z4
  have:=e4.size
  try simp only [Value.cells] at HB4
  have hbd:=ur hx1
  refine aa (bO Z) (ah (aq (n:=4) Z Z (aZ Z) zk Z cT HB4 bV ?_))
  rintro w102 HB4 k102 z102
  have:=k102.size
  try simp only [zS,Nat.zero_add,Nat.reduceAdd,List.drop_nil] at HB4
  refine ac (U ?_)
  replace E:=(E.trans e4.keep).step k102 (by intro i hi he;have he0:=he;(try dsimp only [aP] at hi he ⊢);(try simp only [Value.ownBlock,Option.some.injEq] at he);first | exact he.elim | omega | exact he | (first | exact hb he | exact hF0 _ hi he | exact hF0 _ hFq he | (have:=hFs _ hi;omega)))
  replace HS1:=(HS1.ext e4).keep k102 (by intro i _ hi he;have he0:=he;(try dsimp only [aP,bj] at hi he);(try simp only [Value.ownBlock,Option.some.injEq] at he);first | exact hi.elim | exact he.elim | omega | (rcases hi with hi | hi <;> omega) | (rcases he with he | he <;> omega) | (first | exact hb he | exact hF0 _ hi he | exact hF0 _ hFq he | (have:=hFs _ hi;omega)))
  replace HB1:=(HB1.ext e4).keep k102 (by intro h;have he0:=h;(try dsimp only at h);(try simp only [Value.ownBlock,Option.some.injEq] at h);first | omega | (have he:=he0;first | exact hb he | exact hF0 _ hi he | exact hF0 _ hFq he | (have:=hFs _ hi;omega)))
  replace EL1:=(EL1.trans e4.keep).step k102 (by intro i hi he;have he0:=he;(try dsimp only [aP] at hi he ⊢);(try simp only [Value.ownBlock,Option.some.injEq] at he);first | exact he.elim | omega | exact he | (first | exact hb he | exact hF0 _ hi he | exact hF0 _ hFq he | (have:=hFs _ hi;omega)))
  replace EL9:=(EL9.trans e4.keep).step k102 (by intro i hi he;have he0:=he;(try dsimp only [aP] at hi he ⊢);(try simp only [Value.ownBlock,Option.some.injEq] at he);first | exact he.elim | omega | exact he | (first | exact hb he | exact hF0 _ hi he | exact hF0 _ hFq he | (have:=hFs _ hi;omega)))
  replace HPq:=(HPq.ext e4).keep k102 (by intro h;have he0:=h;(try dsimp only at h);(try simp only [Value.ownBlock,Option.some.injEq] at h);(try simp only [au] at h);(try simp only [au] at he0);first | omega | (have he:=he0;first | exact hb he | exact hF0 _ hi he | exact hF0 _ hFq he | (have:=hFs _ hi;omega)))
  replace HG2:=(HG2.ext e4).keep k102 (by intro i _ hi he;have he0:=he;(try dsimp only [aP,bj] at hi he);(try simp only [Value.ownBlock,Option.some.injEq] at he);first | exact hi.elim | exact he.elim | omega | (rcases hi with hi | hi <;> omega) | (rcases he with he | he <;> omega) | (first | exact hb he | exact hF0 _ hi he | exact hF0 _ hFq he | (have:=hFs _ hi;omega)))
  replace HSt:=(HSt.ext e4).keep k102 (by intro i _ hi he;have he0:=he;(try dsimp only [aP,bj] at hi he);(try simp only [Value.ownBlock,Option.some.injEq] at he);first | exact hi.elim | exact he.elim | omega | (rcases hi with hi | hi <;> omega) | (rcases he with he | he <;> omega) | (first | exact hb he | exact hF0 _ hi he | exact hF0 _ hFq he | (have:=hFs _ hi;omega)))
  by_cases hik:i < gW xs
  ·
   refine V ?_
   have hY2:=hY ((List.finRange (gW xs)).take i) ⟨i,hik⟩
   simp only [hcs] at hY2
   refine cN zk ?_
   have e103:aX w102 { w102 with drawn:=w102.drawn + 1 }:=ao.drawn _ _
   generalize hw103:({ w102 with drawn:=w102.drawn + 1 }:World)=w103 at e103 ⊢
   clear hw103
   have:=e103.size
   refine bT 4 Z zd zd zd ?_
   refine cf (aP) zd zd ?_
   replace HB1:=HB1.ext e103
   replace HPq:=HPq.ext e103
   replace HB4:=HB4.ext e103
   refine aB (fun ab w hR hd=>ag zk Z (by first | exact (HB4.ext hR).cell rfl | exact aK (HPq.ext hR) | exact (HB1.ext hR).cell rfl | assumption)) ?_
   refine aB (fun ab w hR hd=>aQ Z) ?_
   refine aB (fun ab w hR hd=>eZ (et:=156) (sz:=4) (h:=i) zk zk (hd 0 Z) (hd 1 Z) (by first | rfl | omega) zo) ?_
   refine aB (fun ab w hR hd=>ap zk Z (by first | exact (HB4.ext hR).pv | exact (HPq.ext hR) | exact (HB1.ext hR).pv | assumption) Z) ?_
   refine bU (fun w104 e104=>?_)
   rintro _ rfl _ rfl _ rfl _ rfl
   have:=e104.size
   refine bG (U (bT 1 Z zd zd zd ?_))
   refine bZ zd Z ?_
   replace HG2:=(HG2.ext e103).ext e104
   replace HSt:=(HSt.ext e103).ext e104
   refine ah (aW zk (bI Z) (aZ Z) (ae.mono (o0 (b:=true) HSt HG2 (hbd.trans (qh hik))) ?_))
   rintro _ w105 ⟨rfl,e105⟩
   have:=e105.size
   refine ac (U (ve 4 Z zd zd zd ?_))
   refine cf (aP) zd zd ?_
   refine aB (fun ab w hR hd=>cg Z) ?_
   refine aB (fun ab w hR hd=>be (t:=.bool _) (hd 0 Z)) ?_
   refine dw Z (fun ab w hd=>hd 1 Z) (fun ab w hR hd=>jA Z) ?_
   replace HB1:=(HB1.ext e104).ext e105
   replace HPq:=(HPq.ext e104).ext e105
   replace HB4:=(HB4.ext e104).ext e105
   refine dw Z (fun ab w hd=>hd 1 Z) (fun ab w hR hd=>ap zk Z (by first | exact (HB4.ext hR).pv | exact (HPq.ext hR) | exact (HB1.ext hR).pv | assumption) Z) ?_
   refine bU (fun w106 e106=>?_)
   rintro _ rfl _ rfl _ rfl _ rfl
   have:=e106.size
   refine bG (U (⟨uf zd (by rfl),?_⟩))
   refine bT 1 Z zd zd zd ?_
   refine bZ zd Z ?_
   replace EL9:=(((EL9.trans e103.keep).trans e104.keep).trans e105.keep).trans e106.keep
   refine ah (qT Z (aZ Z) (YieldAt.mono (hY2 _ (hJ _ _ _ EL9 hj) (by rw [List.length_take,List.length_finRange];omega)) ?_))
   rintro en w9 ⟨v,rfl,hv⟩
   refine ⟨v,rfl,?_⟩
   obtain ⟨bb,rfl,hb1,hb2⟩:=yb hv
   refine ac (U (bT 1 Z zd zd zd ?_))
   refine bZ zd Z ?_
   refine aa (cg Z) ?_
   refine ac (U (bZ zd Z ?_))
   refine aa (r9 Z Z) ?_
   replace E:=(((E.trans e103.keep).trans e104.keep).trans e105.keep).trans e106.keep
   replace HS1:=(((HS1.ext e103).ext e104).ext e105).ext e106
   replace EL1:=(((EL1.trans e103.keep).trans e104.keep).trans e105.keep).trans e106.keep
   replace HG2:=(HG2.ext e105).ext e106
   replace HSt:=(HSt.ext e105).ext e106
   replace HB1:=HB1.ext e106
   replace HPq:=HPq.ext e106
   replace HB4:=HB4.ext e106
   refine ac (U (am Z Z (fun hcc=>?_) (fun hcc=>?_)))
   ·
    refine aw (bz (ay (ay (bz (vb Z ?_)))))
    obtain rfl:bb=false:=by cases bb <;> simp_all
    exact .inr ⟨_,by rw [← fS hik];exact List.take_prefix _ _,hb2 rfl⟩
   obtain rfl:bb=true:=by cases bb <;> simp_all
   obtain ⟨hj4,k4⟩:=hb1 rfl
   have:=k4.size
   refine ar (bE (U (O zd (aa (cn Z Z (by first | exact bn zo zo | rfl)) ?_))))
   replace E:=E.step k4 (by intro i hi he;have he0:=he;(try dsimp only [aP] at hi he ⊢);(try simp only [Value.ownBlock,Option.some.injEq] at he);first | exact he.elim | omega | exact he | (first | exact hb he | exact hF0 _ hi he | exact hF0 _ hFq he | (have:=hFs _ hi;omega)))
   replace HS1:=HS1.keep k4 (by intro i _ hi he;have he0:=he;(try dsimp only [aP,bj] at hi he);(try simp only [Value.ownBlock,Option.some.injEq] at he);first | exact hi.elim | exact he.elim | omega | (rcases hi with hi | hi <;> omega) | (rcases he with he | he <;> omega) | (first | exact hb he | exact hF0 _ hi he | exact hF0 _ hFq he | (have:=hFs _ hi;omega)))
   replace HB1:=HB1.keep k4 (by intro h;have he0:=h;(try dsimp only at h);(try simp only [Value.ownBlock,Option.some.injEq] at h);first | omega | (have he:=he0;first | exact hb he | exact hF0 _ hi he | exact hF0 _ hFq he | (have:=hFs _ hi;omega)))
   replace EL1:=EL1.step k4 (by intro i hi he;have he0:=he;(try dsimp only [aP] at hi he ⊢);(try simp only [Value.ownBlock,Option.some.injEq] at he);first | exact he.elim | omega | exact he | (first | exact hb he | exact hF0 _ hi he | exact hF0 _ hFq he | (have:=hFs _ hi;omega)))
   refine aa (aQ Z) (ac (U (⟨i + 1,_,rfl,by (repeat (first | exact cD.of_over _ _ _ | refine cD.upd ?_ zq _ | refine cD.overs ?_ zq _)),⟨by first | rfl | exact congrArg (Value.int _) zo | (simp;done),trivial⟩,⟨E,EL1,?_⟩,?_⟩)))
   ·
    exact ⟨by omega,by rw [fS hik];exact hj4⟩
   (dsimp only;omega)
  refine V (cN zk ?_)
  have e107:aX w102 { w102 with drawn:=w102.drawn + 1 }:=ao.drawn _ _
  generalize hw107:({ w102 with drawn:=w102.drawn + 1 }:World)=w107 at e107 ⊢
  clear hw107
  have:=e107.size
  refine bT 4 Z zd zd zd ?_
  refine cf (aP) zd zd ?_
  replace HB1:=HB1.ext e107
  replace HPq:=HPq.ext e107
  replace HB4:=HB4.ext e107
  refine aB (fun ab w hR hd=>ag zk Z (by first | exact (HB4.ext hR).cell rfl | exact aK (HPq.ext hR) | exact (HB1.ext hR).cell rfl | assumption)) ?_
  refine aB (fun ab w hR hd=>aQ Z) ?_
  refine aB (fun ab w hR hd=>eZ (et:=156) (sz:=4) (h:=i) zk zk (hd 0 Z) (hd 1 Z) (by first | rfl | omega) zo) ?_
  refine aB (fun ab w hR hd=>ap zk Z (by first | exact (HB4.ext hR).pv | exact (HPq.ext hR) | exact (HB1.ext hR).pv | assumption) Z) ?_
  refine bU (fun w108 e108=>?_)
  rintro _ rfl _ rfl _ rfl _ rfl
  have:=e108.size
  refine bG (U (bT 1 Z zd zd zd ?_))
  refine bZ zd Z ?_
  replace HG2:=(HG2.ext e107).ext e108
  replace HSt:=(HSt.ext e107).ext e108
  refine ah (aW zk (bI Z) (aZ Z) (ae.mono (o0 (b:=false) HSt HG2 (by have hi:i=gW xs:=zo;rw [hbd,hi];exact qi zo)) ?_))
  rintro _ w109 ⟨rfl,e109⟩
  have:=e109.size
  refine ac (U (cf (aP) zd zd ?_))
  refine aB (fun ab w hR hd=>cg Z) ?_
  refine aB (fun ab w hR hd=>be (t:=.bool _) (hd 0 Z)) ?_
  refine bJ (u:=.bool true) Z (fun ab w hd=>hd 1 Z) Z ?_
  refine bJ (u:=.bool true) Z (fun ab w hd=>hd 1 Z) Z ?_
  refine bJ (u:=.bool true) Z (fun ab w hd=>hd 1 Z) Z ?_
  refine bJ (u:=.bool true) Z (fun ab w hd=>hd 1 Z) Z ?_
  refine aB (fun ab w hR hd=>uJ (hd 1 Z)) ?_
  refine bU (fun w110 e110=>?_)
  rintro _ rfl _ rfl _ rfl _ rfl _ rfl _ rfl _ rfl
  have:=e110.size
  replace E:=(((E.trans e107.keep).trans e108.keep).trans e109.keep).trans e110.keep
  replace HS1:=(((HS1.ext e107).ext e108).ext e109).ext e110
  replace EL1:=(((EL1.trans e107.keep).trans e108.keep).trans e109.keep).trans e110.keep
  replace EL9:=(((EL9.trans e107.keep).trans e108.keep).trans e109.keep).trans e110.keep
  replace HB1:=((HB1.ext e108).ext e109).ext e110
  replace HPq:=((HPq.ext e108).ext e109).ext e110
  replace HB4:=((HB4.ext e108).ext e109).ext e110
  replace HG2:=(HG2.ext e109).ext e110
  replace HSt:=(HSt.ext e109).ext e110
  refine bG (U (am Z Z (fun hcc=>?_) (fun hcc=>?_)))
  ·
   refine aw (bz (ay (ay (bz (vb Z ?_)))))
   have hi:i=gW xs:=by omega
   rw [iA zo] at hj
   exact .inl (hJ _ _ _ EL9 hj)
  cases hcc
 refine cl (bm (bm (cV (ti Z ?_))))
 have hi:i=gW xs:=by have:=bf hlt;omega
 rw [iA zo] at hj
 exact .inl hj
end Go.Proofs.YteehplloacefmaaGreat
namespace Go.Proofs.YteehplloacefmaaGreat
open Go.Vc
theorem tC {w:World} {F:Nat→Prop} {v:Value} {xs:List dS} (HS1:bs fd w F v xs):ae Tryz.prog 116 #[v] w (fun o w'=>o=.bool (ll xs)∧aX w w'):=by
 obtain ⟨a,c,rfl⟩:=HS1.shape
 have hmx:=HS1.len_max
 have hrk:=nK xs
 refine th 13 Tryz.func116 Z Z (by simp) ?_
 refine V ?_
 have E:=ao.refl (K:=aP) w
 replace HS1:=HS1.all
 refine O zd (aa (ad Z) (ac (U (V (O zd (ah (aD (z:=(.int .i64 0)) (by unfold aE;kernel_rfl) ?_)))))))
 rintro b3 w3 zb3 HB3 e3 z3
 have:=e3.size
 try simp only [Value.cells] at HB3
 refine ah (aR Z Z (bB Z) Z zk HB3 bV ?_)
 rintro w101 HB3 k101 z101
 have:=k101.size
 try simp only [zS,Nat.zero_add,Nat.reduceAdd,List.drop_nil] at HB3
 refine ac (U (V (V (O zd (aa (bP Z) (ah (av zk (bI Z) (ae.mono (sw) ?_))))))))
 replace HS1:=(HS1.ext e3).keep k101 aC
 rintro _ w4 ⟨b4,hb4,rfl,HB4,z4,e4⟩
 have:=e4.size
 refine ac (U (aO ?_))
 simp only [Value.cells] at HB4
 replace HS1:=HS1.ext e4
 obtain ⟨css,hcss⟩:=HS1.pick
 replace E:=((E.trans e3.keep).step k101 bi).trans e4.keep
 replace HB3:=HB3.ext e4
 refine oY (N:=13) Z (show _=(Value.func _ _ _) from Z) zk zq E (fun x:Fin (gW xs)=>[.agg (css x.val).toArray]) (fun _=>Z) (fun i=>i=b3) (fun i h=>by have h:=h;(try dsimp only at h);omega) (nJ (K:=fun i=>i=b3∨w4.heap.size≤i) HS1 HB4 hcss zo (fun i h=>by omega) (fun i h=>by omega)) (fun pre W=>dh W b3 [.int .i64 (pre.length:Int)] 3) (fun c pre W=>False) (fun s W W' t h=>h.turn t) (fun c s W W' t h=>h) (HB3) (fun x e1 W=>jI [(3,.pointer (some ⟨b3,0,none⟩))] e1) (fun x e1 W W' t h=>h) ?_ ?_ ?_ ?_
 ·
  rintro l pre x w102 E EK HB5
  have:=EK.size
  have:=E.size
  have EL1:=ao.refl (K:=aP) w102
  refine ar (U ?_)
  replace HS1:=HS1.keep EK aC
  replace HB4:=HB4.keep EK aH
  exact ⟨_,rfl,EL1,HB5,⟨rfl,trivial⟩⟩
 ·
  rintro l pre x e1 w103 E EK HB5 hh hlen
  have:=EK.size
  have:=E.size
  replace HS1:=HS1.keep EK aC
  obtain ⟨jj,rfl⟩:∃ j,e1=oy _ j:=⟨_,hh.upd⟩
  have EL1:=ao.refl (K:=fun i=>i=b3) w103
  replace HB4:=HB4.keep EK aH
  refine aO (O zd (aa (ag zk Z (by first | exact HB5.cell rfl | exact HB4.cell rfl | assumption)) ?_))
  refine aa (cn Z Z (by first | exact bn zo zo | rfl)) ?_
  refine ah (aR Z Z (bB Z) Z zk HB5 bV ?_)
  rintro w104 HB5 k104 z104
  have:=k104.size
  try simp only [zS,Nat.zero_add,Nat.reduceAdd,List.drop_nil] at HB5
  replace EL1:=EL1.step k104 bi
  refine ac (bE (⟨EL1,?_⟩))
  rw [show (pre.length:Int) + 1=((pre ++ [x]).length:Int) by simp] at HB5
  replace HS1:=HS1.keep k104 aC
  replace HB4:=HB4.keep k104 aH
  replace E:=E.step k104 bi
  exact HB5
 ·
  rintro D w105 hD E EK HB5 HD
  have:=EK.size
  have:=E.size
  replace HB4:=HB4.keep EK aH
  refine bE (U (V (O zd (aa (ag zk Z (by first | exact HB5.cell rfl | exact HB4.cell rfl | assumption)) ?_))))
  refine aa (bP Z) (aa (ba (et:=156) zk Z) ?_)
  refine aa (aJ Z Z) ?_
  refine aa (dl Z) (ac (U (aw (px HD Z zq (cE Z) ?_))))
  have E:=ml E (by omega:w.heap.size≤D) (.deferred none)
  refine ⟨?_,E⟩
  rw [List.length_finRange,← sx]
  congr 1;rw [Bool.eq_iff_iff];simp;omega
 rintro D _ pre W hD E EK hpre h HD;exact h.elim
theorem oo {w:World} {F:Nat→Prop} {v:Value} {xs:List dS} {fn:Nat} {cap:Array Value} {p:dS→Bool} (HSx:bs fd w F v xs) (hb:dj Tryz.prog fn=true)
    (his:∀ W u r,aX w W→aY fd W F u r→r ∈ xs→ae Tryz.prog fn (#[u] ++ cap) W (fun o W'=>o=.bool (p r)∧aX W W')) :
    ae Tryz.prog 125 #[v,.func (.func fn) #[] cap] w (fun o w'=>o=.int .i64 (oU p xs 0)∧aX w w'):=by
 obtain ⟨a,c,rfl⟩:=HSx.shape
 have hmx:=HSx.len_max
 refine aL 19 Tryz.func125 Z Z (by simp) ?_
 refine V ?_
 have E:=ao.refl (K:=aP) w
 refine O zd (aa (ad Z) (ac (U (V (V (O zd (aa (bP Z) (aa (ba (et:=156) zk Z) ?_))))))))
 refine aa (be Z) (ac (U (aO (cy (τ:=Nat) [4,5,8,9,10,11,12,13,14,15,16,17,18] (fun i=>[(8,.int .i64 i)]) (fun i W=>aX w W∧ao (aP) w W∧i≤xs.length∧oU p xs 0=oU p (xs.drop i) i) (fun i=>xs.length - i) 0 (by exact ⟨rfl,trivial⟩) (by exact ⟨E,ao.refl _,Nat.zero_le _,rfl⟩) ?_))))
 rintro i w101 j ⟨E,EL1,h1,h2⟩
 have:=EL1.size
 refine V (O zd (aa (bw Z Z) ?_))
 replace HSx:=HSx.ext EL1
 refine ac (U (V (am Z Z (fun hlt=>?_) (fun hlt=>?_))))
 ·
  have hlt:=bl hlt
  obtain ⟨r,hx,hdr⟩:=eC (l:=xs) (i:=i) zo
  obtain ⟨q,cs,hq,hF,_,HPq,hr⟩:=HSx.el hx
  subst hq
  have HGq:aY fd _ F _ r:=⟨cs,rfl,hr⟩
  obtain ⟨a7,c7,a8,c8,rfl,_⟩:=eN hr
  refine ar (U (V (aO (V (O zd (aa (aQ Z) (aa (bO Z) (ac (U ?_)))))))))
  refine V (O zd (aa (jA Z) (aa (bP Z) (aa (aQ Z) (aa (aF (et:=156) (sz:=4) (k:=i) zk zk Z Z (by first | rfl | omega) zo) ?_)))))
  refine aa (ap zk Z (by first | exact HPq | assumption) Z) ?_
  refine ah (eV hb Z (aZ Z) (ae.mono (his _ _ _ E HGq (List.mem_of_getElem? hx)) ?_))
  rintro _ w9 ⟨rfl,e9⟩
  have:=e9.size
  replace E:=E.trans e9.keep
  replace HSx:=HSx.ext e9
  replace EL1:=EL1.trans e9.keep
  replace HPq:=HPq.ext e9
  replace HGq:=HGq.ext e9
  refine ac (U (am Z Z (fun hc=>?_) (fun hc=>?_)))
  ·
   refine V (O zd (aa (aQ Z) (aa (bO Z) (ac (U (aw (bz (ay (ay ?_)))))))))
   refine bz (ay (aU Z zq (bB Z) ?_))
   refine ⟨?_,E⟩
   rw [h2,hdr,oU,if_pos hc]
  refine ar (bE (U (O zd (aa (cn Z Z (by first | exact bn zo zo | rfl)) ?_))))
  refine aa (aQ Z) (ac (U (⟨i + 1,_,rfl,by (repeat (first | exact cD.of_over _ _ _ | refine cD.upd ?_ zq _ | refine cD.overs ?_ zq _)),⟨by first | rfl | exact congrArg (Value.int _) zo | (simp;done),trivial⟩,⟨E,EL1,?_⟩,?_⟩)))
  ·
   refine ⟨by omega,?_⟩
   rw [h2,hdr,oU,if_neg (by simp [hc])]
  (dsimp only;omega)
 refine cl (bm (bm (cV (U (V (O zd (aa (ad Z) (ac (U ?_)))))))))
 refine aw (aU Z zq (bB Z) ?_)
 refine ⟨?_,E⟩
 rw [h2,List.drop_eq_nil_of_le (by have:=bf hlt;omega)];rfl
theorem lp {w:World} {F:Nat→Prop} {v:Value} {xs:List dS} {fn:Nat} {cap:Array Value} {p:dS→Bool} (HSx:bs fd w F v xs) (hb:dj Tryz.prog fn=true)
    (his:∀ W u r,aX w W→aY fd W F u r→r ∈ xs→ae Tryz.prog fn (#[u] ++ cap) W (fun o W'=>o=.bool (p r)∧aX W W')) :
    ae Tryz.prog 105 #[v,.func (.func fn) #[] cap] w (fun o w'=>o=.bool (xs.any p)∧aX w w'):=by
  obtain ⟨a,c,rfl⟩:=HSx.shape
  refine aL 9 Tryz.func105 Z Z (by simp) ?_
  refine V ?_
  have E:=ao.refl (K:=aP) w
  refine O zd (aa (ad Z) (ac (U (V (O zd (aa (bP Z) (aa (jA Z) (ah (aW zk (bI Z) (show _=(Value.func _ _ _) from Z) (ae.mono (oo HSx hb his) ?_))))))))))
  rintro _ w101 ⟨rfl,e101⟩
  have:=e101.size
  refine aa (fc Z Z) ?_
  refine aa (dl Z) (ac (U (aw (aU Z zq (cE Z) ?_))))
  replace E:=E.trans e101.keep
  exact ⟨by rw [oT],E⟩
theorem ui {w:World} {F G:Nat→Prop} {v u:Value} {a b:dS} (HG1:aY fd w F v a) (HG2:aY fd w G u b):ae Tryz.prog 119 (#[v,u] ++ #[]) w (fun o w'=>o=.bool (decide (a=b))∧aX w w'):=uj HG1 HG2
theorem oq {w:World} {F G:Nat→Prop} {v u:Value} {rs ss:List dS} (HSr:bs fd w F v rs) (HSs:bs fd w G u ss):ae Tryz.prog 118 #[v,u,.func (.func 119) #[] #[]] w (fun o w'=>o=.bool (decide (rs=ss))∧aX w w'):=by
 obtain ⟨a,c,rfl⟩:=HSr.shape
 obtain ⟨a2,c2,rfl⟩:=HSs.shape
 have hmx:=HSr.len_max
 have hmx2:=HSs.len_max
 refine aL 32 Tryz.func118 Z Z (by simp) ?_
 refine V ?_
 have E:=ao.refl (K:=aP) w
 replace HSr:=HSr.all
 replace HSs:=HSs.all
 refine O zd (aa (ad Z) (ac (U (V (V (O zd (aa (bP Z) (aa (ba (et:=156) zk Z) ?_))))))))
 refine aa (bP Z) (aa (ba (et:=156) zk Z) ?_)
 refine aa (bD Z Z) ?_
 refine ac (U (am Z Z (fun hc=>?_) (fun hc=>?_)))
 ·
  refine V (O zd (aa (ad Z) (ac (U (aw (ay (aU Z zq (cE Z) ?_)))))))
  refine ⟨?_,E⟩
  rw [decide_eq_false]
  intro h;subst h;simp at hc
 have hlen:rs.length=ss.length:=by simp at hc;omega
 refine ar (U (V (V (O zd (aa (bP Z) (aa (ba (et:=156) zk Z) ?_))))))
 refine aa (be Z) (ac (U (aO (cy (τ:=Nat) [6,7,8,9,17,18,19,20,21,22,23,24,25,26,27,28,29,30,31] (fun i=>[(17,.int .i64 i)]) (fun i W=>aX w W∧ao (aP) w W∧i≤rs.length∧rs.take i=ss.take i) (fun i=>rs.length - i) 0 (by exact ⟨rfl,trivial⟩) (by exact ⟨E,ao.refl _,Nat.zero_le _,rfl⟩) ?_))))
 rintro i w101 j ⟨E,EL1,h1,h2⟩
 have:=EL1.size
 refine V (O zd (aa (bw Z Z) ?_))
 replace HSr:=HSr.ext EL1
 replace HSs:=HSs.ext EL1
 refine ac (U (V (am Z Z (fun hlt=>?_) (fun hlt=>?_))))
 ·
  have hlt:=bl hlt
  obtain ⟨r,hx,hdr⟩:=eC (l:=rs) (i:=i) zo
  obtain ⟨s,hy,hds⟩:=eC (l:=ss) (i:=i) zo
  obtain ⟨q1,cs1,rfl,hq1,_,HP1,hr1⟩:=HSr.el hx
  obtain ⟨q2,cs2,rfl,hq2,_,HP2,hr2⟩:=HSs.el hy
  have HG5:aY fd _ _ _ r:=⟨cs1,rfl,hr1⟩
  have HG6:aY fd _ _ _ s:=⟨cs2,rfl,hr2⟩
  obtain ⟨b1,d1,b2,d2,rfl,_⟩:=eN hr1
  obtain ⟨b3,d3,b4,d4,rfl,_⟩:=eN hr2
  refine ar (U (V (aO (V (O zd (aa (aQ Z) (aa (aF (et:=156) (sz:=4) (k:=i) zk zk Z Z (by first | rfl | omega) zo) ?_)))))))
  refine aa (ap zk Z (by first | exact HP2 | exact HP1 | assumption) Z) ?_
  refine ah (aD (z:=(.agg #[.slice none 0 0,.int .i64 0,.int .i64 0,.slice none 0 0])) (by unfold aE;kernel_rfl) ?_)
  rintro b8 w8 zb8 HB8 e8 z8
  have:=e8.size
  try simp only [Value.cells] at HB8
  refine aa (bO Z) (ah (aq (n:=4) Z Z (aZ Z) zk Z cT HB8 bV ?_))
  rintro w102 HB8 k102 z102
  have:=k102.size
  try simp only [zS,Nat.zero_add,Nat.reduceAdd,List.drop_nil] at HB8
  refine ac (U (V (O zd (aa (bP Z) (aa (aQ Z) (aa (aF (et:=156) (sz:=4) (k:=i) zk zk Z Z (by first | rfl | omega) zo) ?_))))))
  replace HP1:=(HP1.ext e8).keep k102 (by intro h;(try dsimp only at h);(try simp only [au] at h);first | omega)
  replace HP2:=(HP2.ext e8).keep k102 (by intro h;(try dsimp only at h);(try simp only [au] at h);first | omega)
  refine aa (ap zk Z (by first | exact HB8.pv | exact HP2 | exact HP1 | assumption) Z) ?_
  refine ah (aD (z:=(.agg #[.slice none 0 0,.int .i64 0,.int .i64 0,.slice none 0 0])) (by unfold aE;kernel_rfl) ?_)
  rintro b9 w9 zb9 HB9 e9 z9
  have:=e9.size
  try simp only [Value.cells] at HB9
  refine ah (aq (n:=4) Z Z (aZ Z) zk Z cT HB9 bV ?_)
  rintro w103 HB9 k103 z103
  have:=k103.size
  try simp only [zS,Nat.zero_add,Nat.reduceAdd,List.drop_nil] at HB9
  replace HP1:=(HP1.ext e9).keep k103 (by intro h;(try dsimp only at h);(try simp only [au] at h);first | omega)
  replace HP2:=(HP2.ext e9).keep k103 (by intro h;(try dsimp only at h);(try simp only [au] at h);first | omega)
  replace HB8:=(HB8.ext e9).keep k103 aH
  refine ac (U (V (O zd (aa (jA Z) (aa (ap zk Z (by first | exact HB9.pv | exact HB8.pv | exact HP2 | exact HP1 | assumption) Z) ?_)))))
  refine aa (ap zk Z (by first | exact HB9.pv | exact HB8.pv | exact HP2 | exact HP1 | assumption) Z) ?_
  replace HG5:=(((HG5.ext e8).keep k102 aC).ext e9).keep k103 aC
  replace HG6:=(((HG6.ext e8).keep k102 aC).ext e9).keep k103 aC
  refine ah (dd zk Z (aZ Z) (aZ Z) (ae.mono (ui HG5 HG6) ?_))
  replace HSr:=(((HSr.ext e8).keep k102 aC).ext e9).keep k103 aC
  replace HSs:=(((HSs.ext e8).keep k102 aC).ext e9).keep k103 aC
  rintro _ w10 ⟨rfl,e10⟩
  have:=e10.size
  refine aa (cg Z) ?_
  replace E:=((((E.trans e8.keep).step k102 bi).trans e9.keep).step k103 bi).trans e10.keep
  replace EL1:=((((EL1.trans e8.keep).step k102 bi).trans e9.keep).step k103 bi).trans e10.keep
  replace HSr:=HSr.ext e10
  replace HSs:=HSs.ext e10
  replace HP1:=HP1.ext e10
  replace HP2:=HP2.ext e10
  replace HG5:=HG5.ext e10
  replace HG6:=HG6.ext e10
  replace HB8:=HB8.ext e10
  replace HB9:=HB9.ext e10
  refine ac (U (am Z Z (fun h38=>?_) (fun h38=>?_)))
  ·
   refine V (O zd (aa (ad Z) (ac (U (aw (bz (ay (ay (bz ?_)))))))))
   refine ay (aU Z zq (cE Z) ?_)
   refine ⟨?_,E⟩
   rw [decide_eq_false]
   rintro h;cases h
   rw [hx] at hy;cases hy
   simp at h38
  refine ar (bE (U (O zd (aa (cn Z Z (by first | exact bn zo zo | rfl)) ?_))))
  refine aa (aQ Z) (ac (U (⟨i + 1,_,rfl,by (repeat (first | exact cD.of_over _ _ _ | refine cD.upd ?_ zq _ | refine cD.overs ?_ zq _)),⟨by first | rfl | exact congrArg (Value.int _) zo | (simp;done),trivial⟩,⟨E,EL1,?_⟩,?_⟩)))
  ·
   refine ⟨by omega,?_⟩
   have hs:r=s:=by simpa using h38
   rw [List.take_add_one,List.take_add_one,hx,hy,h2,hs]
  (dsimp only;omega)
 have hlt:=bf hlt
 refine cl (bm (bm (cV (U (V (O zd (aa (ad Z) (ac (U ?_)))))))))
 refine aw (aU Z zq (cE Z) ?_)
 refine ⟨?_,E⟩
 rw [List.take_of_length_le zo,List.take_of_length_le zo] at h2
 rw [decide_eq_true h2]
end Go.Proofs.YteehplloacefmaaGreat
