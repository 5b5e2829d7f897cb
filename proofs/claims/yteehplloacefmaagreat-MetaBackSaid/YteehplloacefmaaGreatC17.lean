/- Steps and lemmas for the walks. -/
import Derived.Test.YteehplloacefmaaGreatCf
set_option linter.unusedVariables false
set_option linter.unusedSimpArgs false
set_option maxRecDepth 100000
namespace Go.Proofs.YteehplloacefmaaGreat
open Go.Vc
theorem dV {l r:List UInt8} {c:iq} (h:dt l.length l=some (c,r)) (hz:¬ r=[]):bY l=none:=by
  rw [bY,h]
  cases r with
  | nil=>exact absurd rfl hz
  | cons=>rfl
def tD (l:List UInt8) (w:World):Value→World→Prop:=fun o w'=>(∃ u c e,o=.tuple #[u,.int .i64 e]∧aY ga w' (fun i=>w.heap.size≤i) u c∧((e=0∧bY l=some c)∨(e=4∧c=cmZ∧bY l=none)))∧aX w w'
theorem bW {w W:World} {l:List UInt8} {b2 b3:Nat} {cs2:List Value} {e0:Value} {e:Nat→Value} (he2:e 2=.pointer (some ⟨b2,0,none⟩)) (he3:e 3=.pointer (some ⟨b3,0,none⟩)) (HB2:dh W b2 cs2 49) (hl2:cs2.length=20) (HB3:dh W b3 [e0] 31)
    (hne:b2≠b3) (h2:w.heap.size≤b2) (h3:w.heap.size≤b3) (E:aX w W) (hn:bY l=none) :
    bodyPostDIn (Fw none) 0 Tryz.prog Tryz.f33 (mI (tD l w)) (.panic l8) (dg 81 e [{ target:=.fn (.func 67) #[.pointer (some ⟨b2,0,none⟩),.pointer (some ⟨b3,0,none⟩)],args:=#[] }]) W:=by
  refine uc (ds:=[]) zk (wn HB2 hl2 HB3 hne) (fun w' hS=>?_)
  obtain ⟨hB2,hB3,hk⟩:=hS
  refine ⟨_,uP Z zq zq he2 he3 zk zk hB2.pv Z (hB3.cell Z),?_⟩
  refine ⟨⟨_,cmZ,4,rfl,up,.inr ⟨rfl,rfl,hn⟩⟩,E.step hk fun i hi h=>by rcases h with h | h <;> omega⟩
theorem eW {w W:World} {l:List UInt8} {b2 b3:Nat} {cs2:List Value} {c:iq} {e:Nat→Value} (he2:e 2=.pointer (some ⟨b2,0,none⟩)) (he3:e 3=.pointer (some ⟨b3,0,none⟩)) (HB2:dh W b2 cs2 49) (hl2:cs2.length=20) (HB3:dh W b3 [.int .i64 0] 31)
    (HG:aY ga W (fun i=>w.heap.size≤i) (.agg cs2.toArray) c) (E:aX w W) (hy:bY l=some c) :
    bodyPostDIn (Fw none) 0 Tryz.prog Tryz.f33 (mI (tD l w)) .ret (dg 81 e [{ target:=.fn (.func 67) #[.pointer (some ⟨b2,0,none⟩),.pointer (some ⟨b3,0,none⟩)],args:=#[] }]) W:=by
  refine ub (ds:=[]) zk wm (fun w' hS=>?_)
  refine ⟨_,uP Z zq zq he2 he3 zk zk (HB2.ext hS).pv hl2 ((HB3.ext hS).cell Z),?_⟩
  exact ⟨⟨_,c,0,rfl,HG.ext hS,.inl ⟨rfl,hy⟩⟩,E.trans hS⟩
theorem gC {w:World} {b:Bool} (hb:b=true):ae Tryz.prog 73 #[.bool b] w (fun o w'=>o=.tuple #[]∧aX w w'):=by subst hb;exact nR
theorem dW {w:World} {b:Bool} (hb:b=false):bt Tryz.prog 73 #[.bool b] w (fun ch w'=>ch=l8∧aX w w'):=by subst hb;exact l9
theorem dK {w:World} {b:Nat} {F:Nat→Prop} {l:List UInt8} {n:Int} (hr:Rd ef w b F l) (hn:(if l=[] then 0 else 4)=n):ae Tryz.prog 35 #[.pointer (some ⟨b,0,none⟩)] w (fun r w'=>r=.int .i64 n∧aX w w'):=by subst hn;exact nA hr
set_option maxHeartbeats 16000000 in
theorem uG {w:World} {F:Nat→Prop} {v:Value} {l:List UInt8} (HS1:Bv w F v l) (hl:l.length≤1000000):ae Tryz.prog 33 #[v] w (tD l w):=by
 obtain ⟨a0,c0,rfl⟩:=HS1.shape
 refine vD 81 Tryz.func33 Z Z (by simp) ?_
 refine V ?_
 have E:=ao.refl (K:=aP) w
 replace HS1:=HS1.all
 refine O zd (ah (aD (z:=(.agg #[.int .i64 0,.int .i64 0,.int .i64 0,.int .i64 0,.slice none 0 0,.slice none 0 0,.slice none 0 0,.slice none 0 0,.bool false,.int .i64 0,.int .i64 0,.slice none 0 0,.slice none 0 0,.bool false,.int .i64 0,.int .i64 0,.slice none 0 0,.slice none 0 0,.slice none 0 0,.int .i64 0])) (by unfold aE;kernel_rfl) ?_))
 rintro b2 w2 zb2 HB2 e2 z2
 have:=e2.size
 try simp only [Value.cells] at HB2
 refine ah (aD (z:=(.int .i64 0)) (by unfold aE;kernel_rfl) ?_)
 rintro b3 w3 zb3 HB3 e3 z3
 have:=e3.size
 try simp only [Value.cells] at HB3
 refine ac (U (V (qP zq zq (show _=Value.pointer _ from Z) (show _=Value.pointer _ from Z) ?_)))
 replace HS1:=(HS1.ext e2).ext e3
 refine U (V (O zd (aa (bP Z) (ah (av zk (bI Z) (ae.mono (mJ HS1 zo) ?_))))))
 rintro _ w4 ⟨b4,rfl,HR,hb4,e4,zb4⟩
 have:=e4.size
 have hF:∀ k,(w3.heap.size≤k∧k < b4)→k < b4:=fun k hk=>hk.2
 have hnF:¬ (w3.heap.size≤b4∧b4 < b4):=by omega
 obtain ⟨n4,hn4⟩:∃ n,n=w4.heap.size:=⟨_,rfl⟩
 refine aa (mO Z) (ac (U ?_))
 replace E:=((E.trans e2.keep).trans e3.keep).trans e4.keep
 replace HB2:=(HB2.ext e3).ext e4
 replace HS1:=HS1.ext e4
 replace HB3:=HB3.ext e4
 by_cases h0:eF 10 l=none
 ·
  refine V (O zd (aa (bK Z) (cj (ei zk (ci Z) (bB Z) (bt.mono (gk (most:=10) HR hnF zq zq h0) ?_)))))
  rintro ch w201 ⟨hch,k201⟩
  have:=k201.size
  refine bC ?_
  subst hch
  replace E:=E.step k201 bi
  replace HB2:=HB2.keep k201 aH
  replace HB3:=HB3.keep k201 aH
  exact bW (by rfl) (by rfl) HB2 (by rfl) HB3 zo zo zo E (by simp [bY,dt,h0])
 refine V ?_
 obtain ⟨⟨k,l1⟩,h0⟩:=Option.ne_none_iff_exists'.1 h0
 have bh0:=dy h0
 refine O zd (aa (bK Z) (ah (aW zk (ci Z) (bB Z) (ae.mono (gl (most:=10) HR hnF zq zq h0) ?_))))
 rintro _ w202 ⟨rfl,HR1,k202⟩
 have:=k202.size
 replace HB2:=HB2.keep k202 aH
 refine aa (aA 0 38 Z) (ah (aR Z Z (bB Z) Z zk HB2 bV ?_))
 rintro w101 HB2 k101 z101
 have:=k101.size
 try simp only [zS,Nat.zero_add,Nat.reduceAdd,List.drop_nil] at HB2
 replace HB3:=(HB3.keep k202 aH).keep k101 aH
 refine ac (U (V (V (O zd (aa (aA 0 38 Z) (aa (ag zk Z (by first | exact HB3.pv 0 _ rfl | exact HB2.pv 0 _ rfl | assumption)) ?_))))))
 refine ac (U (aO (V (O zd (aa (aJ Z Z) ?_)))))
 replace E:=(E.step k202 bi).step k101 bi
 replace HS1:=(HS1.keep k202 aC).keep k101 aC
 replace HR1:=HR1.keep k101 fB (by intro i hi he;have hi0:=hi;have hi:=hi;have he:=he;(try dsimp only [aP] at hi he);first | exact he.elim | omega | (have:=hF i hi0;omega))
 refine aa (dl Z) (ac (U (am Z Z (fun h2=>?_) (fun h2=>?_))))
 ·
  obtain rfl:k=2:=by have:=bl h2;omega
  by_cases h1:eF 4 l1=none
  ·
   refine V (O zd (aa (bK Z) (cj (ei zk (ci Z) (bB Z) (bt.mono (gk (most:=4) HR1 hnF zq zq h1) ?_)))))
   rintro ch w203 ⟨hch,k203⟩
   have:=k203.size
   refine bC ?_
   refine gz ?_
   refine bC ?_
   subst hch
   replace E:=E.step k203 bi
   replace HB2:=HB2.keep k203 aH
   replace HB3:=HB3.keep k203 aH
   exact bW (by rfl) (by rfl) HB2 (by rfl) HB3 zo zo zo E (by simp [bY,dt,h0,h1])
  refine V ?_
  obtain ⟨⟨rc,l2⟩,h1⟩:=Option.ne_none_iff_exists'.1 h1
  have bh1:=dy h1
  refine O zd (aa (bK Z) (ah (aW zk (ci Z) (bB Z) (ae.mono (gl (most:=4) HR1 hnF zq zq h1) ?_))))
  rintro _ w204 ⟨rfl,HR2,k204⟩
  have:=k204.size
  replace HB2:=HB2.keep k204 aH
  refine aa (aA 1 44 Z) (aa (aA 0 3 Z) (ah (aR (i:=1) Z Z (bB Z) Z zk HB2 bV ?_)))
  rintro w102 HB2 k102 z102
  have:=k102.size
  try simp only [au] at k102
  try simp only [au] at HB2
  try simp only [zS,Nat.zero_add,Nat.reduceAdd,List.drop_nil] at HB2
  refine ac (U ?_)
  replace E:=(E.step k204 bi).step k102 bi
  replace HS1:=(HS1.keep k204 aC).keep k102 aC
  replace HB3:=(HB3.keep k204 aH).keep k102 aH
  replace HR2:=HR2.keep k102 fB (by intro i hi he;have hi0:=hi;have hi:=hi;have he:=he;(try dsimp only [aP] at hi he);first | exact he.elim | omega | (have:=hF i hi0;omega))
  by_cases h3:eF 2147483647 l2=none
  ·
   refine V (O zd (aa (bK Z) (cj (ei zk (ci Z) (bB Z) (bt.mono (gk (most:=2147483647) HR2 hnF zq zq h3) ?_)))))
   rintro ch w205 ⟨hch,k205⟩
   have:=k205.size
   refine bC ?_
   refine gz ?_
   refine bC ?_
   subst hch
   replace E:=E.step k205 bi
   replace HB2:=HB2.keep k205 aH
   replace HB3:=HB3.keep k205 aH
   exact bW (by rfl) (by rfl) HB2 (by rfl) HB3 zo zo zo E (by simp [bY,dt,h0,h1,h3])
  refine V ?_
  obtain ⟨⟨rn,l3⟩,h3⟩:=Option.ne_none_iff_exists'.1 h3
  have bh3:=dy h3
  refine O zd (aa (bK Z) (ah (aW zk (ci Z) (bB Z) (ae.mono (gl (most:=2147483647) HR2 hnF zq zq h3) ?_))))
  rintro _ w206 ⟨rfl,HR3,k206⟩
  have:=k206.size
  replace HB2:=HB2.keep k206 aH
  refine aa (aA 1 44 Z) (aa (aA 1 2 Z) (ah (aR (i:=2) Z Z (bB Z) Z zk HB2 bV ?_)))
  rintro w103 HB2 k103 z103
  have:=k103.size
  try simp only [au] at k103
  try simp only [au] at HB2
  try simp only [zS,Nat.zero_add,Nat.reduceAdd,List.drop_nil] at HB2
  refine ac (U ?_)
  replace E:=(E.step k206 bi).step k103 bi
  replace HS1:=(HS1.keep k206 aC).keep k103 aC
  replace HB3:=(HB3.keep k206 aH).keep k103 aH
  replace HR3:=HR3.keep k103 fB (by intro i hi he;have hi0:=hi;have hi:=hi;have he:=he;(try dsimp only [aP] at hi he);first | exact he.elim | omega | (have:=hF i hi0;omega))
  by_cases h4:gH l3=none
  ·
   refine O zd (aa (bK Z) (cj (cJ zk (ci Z) (bt.mono (uv HR3 hF zo h4) ?_))))
   rintro ch w207 ⟨hch,k207⟩
   have:=k207.size
   refine gz ?_
   refine bC ?_
   subst hch
   replace E:=E.step k207 bi
   replace HB2:=HB2.keep k207 aH
   replace HB3:=HB3.keep k207 aH
   exact bW (by rfl) (by rfl) HB2 (by rfl) HB3 zo zo zo E (by simp [bY,dt,h0,h1,h3,h4])
  obtain ⟨⟨ra,l4⟩,h4⟩:=Option.ne_none_iff_exists'.1 h4
  have bh4:=qk h4
  refine O zd (aa (bK Z) (ah (av zk (ci Z) (ae.mono (uw HR3 hF zo h4) ?_))))
  rintro _ w208 ⟨HG208,HR4,k208⟩
  have:=k208.size
  obtain ⟨a208a,c208a,a208b,c208b,a208c,c208c,a208d,c208d,rfl⟩:=HG208.akF
  have HGF:aY ga w208 (fun i=>n4≤i) (.agg #[.int .i64 2,.int .i64 rc,.int .i64 rn,.int .i64 ra.1,.slice a208a ra.2.1.length c208a,.slice a208b ra.2.2.1.length c208b,.slice a208c ra.2.2.2.1.length c208c,.slice a208d ra.2.2.2.2.1.length c208d,.bool ra.2.2.2.2.2.1,.int .i64 ra.2.2.2.2.2.2,.int .i64 0,.slice none 0 0,.slice none 0 0,.bool false,.int .i64 0,.int .i64 0,.slice none 0 0,.slice none 0 0,.slice none 0 0,.int .i64 0]) _:=aY.mkCmF ⟨by decide,by decide⟩ (aY.mkRqF (HG208.mono fun i _ h=>by omega) ⟨by omega,by omega⟩ ⟨by omega,by omega⟩) fL (bs.nil _ _ _) (fO.nil _ _) (fO.nil _ _) ⟨by decide,by decide⟩
  replace E:=E.step k208 bi
  replace HS1:=HS1.keep k208 aC
  replace HB2:=HB2.keep k208 aH
  replace HB3:=HB3.keep k208 aH
  obtain ⟨cm,hcmq⟩:∃ c:iq,dt l.length l=some (c,l4)∧aY ga w208 (fun i=>n4≤i) (.agg #[.int .i64 2,.int .i64 rc,.int .i64 rn,.int .i64 ra.1,.slice a208a ra.2.1.length c208a,.slice a208b ra.2.2.1.length c208b,.slice a208c ra.2.2.2.1.length c208c,.slice a208d ra.2.2.2.2.1.length c208d,.bool ra.2.2.2.2.2.1,.int .i64 ra.2.2.2.2.2.2,.int .i64 0,.slice none 0 0,.slice none 0 0,.bool false,.int .i64 0,.int .i64 0,.slice none 0 0,.slice none 0 0,.slice none 0 0,.int .i64 0]) c:=⟨_,by simp [dt,h0,h1,h3,h4],HGF⟩
  obtain ⟨hcm,HGF⟩:=hcmq
  have HGc:=HGF.imp gE
  refine aa (aA 1 44 Z) (aa (aA 2 42 Z) (ah (aq (n:=7) (i:=3) Z Z (aZ Z) zk Z cT HB2 bV ?_)))
  rintro w104 HB2 k104 z104
  have:=k104.size
  try simp only [au] at k104
  try simp only [au] at HB2
  try simp only [zS,Nat.zero_add,Nat.reduceAdd,List.drop_nil] at HB2
  refine ac (bE (U ?_))
  replace E:=E.step k104 bi
  replace HS1:=HS1.keep k104 aC
  replace HB3:=HB3.keep k104 aH
  replace HG208:=HG208.keep k104 aC
  replace HR4:=HR4.keep k104 fB (by intro i hi he;have hi0:=hi;have hi:=hi;have he:=he;(try dsimp only [aP] at hi he);first | exact he.elim | omega | (have:=hF i hi0;omega))
  replace HGF:=HGF.keep k104 aC
  replace HGc:=HGc.keep k104 aC
  by_cases hz:l4=[]
  ·
   by_cases hm:eh cm=true
   ·
    refine V (O zd (aa (bK Z) (ah (av zk (ci Z) (ae.mono (dK (n:=0) HR4 (if_pos hz)) ?_)))))
    rintro _ w105 ⟨rfl,e105⟩
    have:=e105.size
    refine aa (aG.as (b:=true) (aJ Z Z) zq) ?_
    replace HB2:=HB2.ext e105
    replace HB3:=HB3.ext e105
    refine aa (bH Z) (dE Z Z (bx.of_v (ap zk Z (by first | exact HB3.pv | exact HB2.pv | assumption) Z) ?_))
    replace HGc:=HGc.ext e105
    refine dE Z Z (av zk (aZ Z) (ae.mono (dX (b:=true) HGc hm) ?_))
    rintro _ w106 ⟨rfl,e106⟩
    have:=e106.size
    refine aa (dn Z Z) ?_
    refine ah (av zk (cE Z) (ae.mono (gC (by rfl)) ?_))
    rintro _ w107 ⟨rfl,e107⟩
    have:=e107.size
    replace HB2:=(HB2.ext e106).ext e107
    replace HB3:=(HB3.ext e106).ext e107
    refine ac (U (V (O zd (aa (ap zk Z (by first | exact HB3.pv | exact HB2.pv | assumption) Z) ?_))))
    refine ah (aq (n:=20) Z Z (aZ Z) zk Z cT HB2 bV ?_)
    rintro w108 HB2 k108 z108
    have:=k108.size
    try simp only [zS,Nat.zero_add,Nat.reduceAdd,List.drop_nil] at HB2
    replace HB3:=HB3.keep k108 aH
    refine ah (aR Z Z (bB Z) Z zk HB3 bV ?_)
    rintro w109 HB3 k109 z109
    have:=k109.size
    try simp only [zS,Nat.zero_add,Nat.reduceAdd,List.drop_nil] at HB3
    refine ac (U (aw ?_))
    replace E:=((((E.trans e105.keep).trans e106.keep).trans e107.keep).step k108 bi).step k109 bi
    replace HGF:=((((HGF.ext e105).ext e106).ext e107).keep k108 aC).keep k109 aC
    replace HB2:=HB2.keep k109 aH
    exact eW (by rfl) (by rfl) HB2 (by rfl) HB3 (HGF.mono fun i _ h=>by omega) E (by rw [bY,hcm,hz];exact if_pos hm)
   refine V (O zd (aa (bK Z) (ah (av zk (ci Z) (ae.mono (dK (n:=0) HR4 (if_pos hz)) ?_)))))
   rintro _ w110 ⟨rfl,e110⟩
   have:=e110.size
   refine aa (aG.as (b:=true) (aJ Z Z) zq) ?_
   replace HB2:=HB2.ext e110
   replace HB3:=HB3.ext e110
   refine aa (bH Z) (dE Z Z (bx.of_v (ap zk Z (by first | exact HB3.pv | exact HB2.pv | assumption) Z) ?_))
   replace HGc:=HGc.ext e110
   refine dE Z Z (av zk (aZ Z) (ae.mono (dX (b:=false) HGc (by simpa using hm)) ?_))
   rintro _ w111 ⟨rfl,e111⟩
   have:=e111.size
   refine aa (dn Z Z) ?_
   refine cj (cJ zk (cE Z) (bt.mono (dW (by rfl)) ?_))
   rintro ch w209 ⟨hch,e209⟩
   have:=e209.size
   refine bC ?_
   subst hch
   replace E:=((E.trans e110.keep).trans e111.keep).trans e209.keep
   replace HB2:=(HB2.ext e111).ext e209
   replace HB3:=(HB3.ext e111).ext e209
   exact bW (by rfl) (by rfl) HB2 (by rfl) HB3 zo zo zo E (by rw [bY,hcm,hz];exact if_neg hm)
  refine V (O zd (aa (bK Z) (ah (av zk (ci Z) (ae.mono (dK (n:=4) HR4 (if_neg hz)) ?_)))))
  rintro _ w112 ⟨rfl,e112⟩
  have:=e112.size
  refine aa (aG.as (b:=false) (aJ Z Z) zq) ?_
  refine aa (bH Z) (dz (u:=.bool false) Z Z Z ?_)
  refine dz (u:=.bool false) Z Z Z ?_
  refine aa (fG Z) ?_
  refine cj (cJ zk (cE Z) (bt.mono (dW (by rfl)) ?_))
  rintro ch w210 ⟨hch,e210⟩
  have:=e210.size
  refine bC ?_
  subst hch
  have hnn:bY l=none:=dV hcm hz
  replace E:=(E.trans e112.keep).trans e210.keep
  replace HB2:=(HB2.ext e112).ext e210
  replace HB3:=(HB3.ext e112).ext e210
  exact bW (by rfl) (by rfl) HB2 (by rfl) HB3 zo zo zo E hnn
 refine V (V (O zd (aa (aJ Z Z) ?_)))
 refine aa (dl Z) (ac (U (am Z Z (fun h3=>?_) (fun h3=>?_))))
 ·
  refine ar (U (am Z Z (fun hx=>?_) (fun hx=>?_)))
  ·
   obtain rfl:k=3:=by have:=bl h3;omega
   by_cases g1:gn l1=none
   ·
    refine O zd (aa (bK Z) (cj (cJ zk (ci Z) (bt.mono (kC HR1 hF zo g1) ?_))))
    rintro ch w211 ⟨hch,k211⟩
    have:=k211.size
    refine gz ?_
    refine bC ?_
    subst hch
    replace E:=E.step k211 bi
    replace HB2:=HB2.keep k211 aH
    replace HB3:=HB3.keep k211 aH
    exact bW (by rfl) (by rfl) HB2 (by rfl) HB3 zo zo zo E (by simp [bY,dt,h0,g1])
   obtain ⟨⟨m,l2⟩,g1⟩:=Option.ne_none_iff_exists'.1 g1
   have bg1:=iv g1
   refine O zd (aa (bK Z) (ah (av zk (ci Z) (ae.mono (kD HR1 hF zo g1) ?_))))
   rintro _ w212 ⟨HG212,HR2,k212⟩
   have:=k212.size
   obtain ⟨a212a,c212a,a212b,c212b,rfl,_⟩:=HG212.mv
   have HGF:aY ga w212 (fun i=>n4≤i) (.agg #[.int .i64 3,.int .i64 0,.int .i64 0,.int .i64 0,.slice none 0 0,.slice none 0 0,.slice none 0 0,.slice none 0 0,.bool false,.int .i64 0,.int .i64 m.1,.slice a212a m.2.1.length c212a,.slice a212b m.2.2.1.length c212b,.bool m.2.2.2.1,.int .i64 m.2.2.2.2.1,.int .i64 m.2.2.2.2.2,.slice none 0 0,.slice none 0 0,.slice none 0 0,.int .i64 0]) _:=aY.mkCmF ⟨by decide,by decide⟩ fP (HG212.mono fun i _ h=>by omega) (bs.nil _ _ _) (fO.nil _ _) (fO.nil _ _) ⟨by decide,by decide⟩
   replace E:=E.step k212 bi
   replace HS1:=HS1.keep k212 aC
   replace HB2:=HB2.keep k212 aH
   replace HB3:=HB3.keep k212 aH
   obtain ⟨cm,hcmq⟩:∃ c:iq,dt l.length l=some (c,l2)∧aY ga w212 (fun i=>n4≤i) (.agg #[.int .i64 3,.int .i64 0,.int .i64 0,.int .i64 0,.slice none 0 0,.slice none 0 0,.slice none 0 0,.slice none 0 0,.bool false,.int .i64 0,.int .i64 m.1,.slice a212a m.2.1.length c212a,.slice a212b m.2.2.1.length c212b,.bool m.2.2.2.1,.int .i64 m.2.2.2.2.1,.int .i64 m.2.2.2.2.2,.slice none 0 0,.slice none 0 0,.slice none 0 0,.int .i64 0]) c:=⟨_,by simp [dt,h0,g1],HGF⟩
   obtain ⟨hcm,HGF⟩:=hcmq
   have HGc:=HGF.imp gE
   refine aa (aA 10 46 Z) (ah (aq (n:=6) Z Z (aZ Z) zk Z cT HB2 bV ?_))
   rintro w113 HB2 k113 z113
   have:=k113.size
   try simp only [zS,Nat.zero_add,Nat.reduceAdd,List.drop_nil] at HB2
   refine ac (bE (U ?_))
   replace E:=E.step k113 bi
   replace HS1:=HS1.keep k113 aC
   replace HB3:=HB3.keep k113 aH
   replace HG212:=HG212.keep k113 aC
   replace HR2:=HR2.keep k113 fB (by intro i hi he;have hi0:=hi;have hi:=hi;have he:=he;(try dsimp only [aP] at hi he);first | exact he.elim | omega | (have:=hF i hi0;omega))
   replace HGF:=HGF.keep k113 aC
   replace HGc:=HGc.keep k113 aC
   by_cases hz:l2=[]
   ·
    by_cases hm:eh cm=true
    ·
     refine V (O zd (aa (bK Z) (ah (av zk (ci Z) (ae.mono (dK (n:=0) HR2 (if_pos hz)) ?_)))))
     rintro _ w114 ⟨rfl,e114⟩
     have:=e114.size
     refine aa (aG.as (b:=true) (aJ Z Z) zq) ?_
     replace HB2:=HB2.ext e114
     replace HB3:=HB3.ext e114
     refine aa (bH Z) (dE Z Z (bx.of_v (ap zk Z (by first | exact HB3.pv | exact HB2.pv | assumption) Z) ?_))
     replace HGc:=HGc.ext e114
     refine dE Z Z (av zk (aZ Z) (ae.mono (dX (b:=true) HGc hm) ?_))
     rintro _ w115 ⟨rfl,e115⟩
     have:=e115.size
     refine aa (dn Z Z) ?_
     refine ah (av zk (cE Z) (ae.mono (gC (by rfl)) ?_))
     rintro _ w116 ⟨rfl,e116⟩
     have:=e116.size
     replace HB2:=(HB2.ext e115).ext e116
     replace HB3:=(HB3.ext e115).ext e116
     refine ac (U (V (O zd (aa (ap zk Z (by first | exact HB3.pv | exact HB2.pv | assumption) Z) ?_))))
     refine ah (aq (n:=20) Z Z (aZ Z) zk Z cT HB2 bV ?_)
     rintro w117 HB2 k117 z117
     have:=k117.size
     try simp only [zS,Nat.zero_add,Nat.reduceAdd,List.drop_nil] at HB2
     replace HB3:=HB3.keep k117 aH
     refine ah (aR Z Z (bB Z) Z zk HB3 bV ?_)
     rintro w118 HB3 k118 z118
     have:=k118.size
     try simp only [zS,Nat.zero_add,Nat.reduceAdd,List.drop_nil] at HB3
     refine ac (U (aw ?_))
     replace E:=((((E.trans e114.keep).trans e115.keep).trans e116.keep).step k117 bi).step k118 bi
     replace HGF:=((((HGF.ext e114).ext e115).ext e116).keep k117 aC).keep k118 aC
     replace HB2:=HB2.keep k118 aH
     exact eW (by rfl) (by rfl) HB2 (by rfl) HB3 (HGF.mono fun i _ h=>by omega) E (by rw [bY,hcm,hz];exact if_pos hm)
    refine V (O zd (aa (bK Z) (ah (av zk (ci Z) (ae.mono (dK (n:=0) HR2 (if_pos hz)) ?_)))))
    rintro _ w119 ⟨rfl,e119⟩
    have:=e119.size
    refine aa (aG.as (b:=true) (aJ Z Z) zq) ?_
    replace HB2:=HB2.ext e119
    replace HB3:=HB3.ext e119
    refine aa (bH Z) (dE Z Z (bx.of_v (ap zk Z (by first | exact HB3.pv | exact HB2.pv | assumption) Z) ?_))
    replace HGc:=HGc.ext e119
    refine dE Z Z (av zk (aZ Z) (ae.mono (dX (b:=false) HGc (by simpa using hm)) ?_))
    rintro _ w120 ⟨rfl,e120⟩
    have:=e120.size
    refine aa (dn Z Z) ?_
    refine cj (cJ zk (cE Z) (bt.mono (dW (by rfl)) ?_))
    rintro ch w213 ⟨hch,e213⟩
    have:=e213.size
    refine bC ?_
    subst hch
    replace E:=((E.trans e119.keep).trans e120.keep).trans e213.keep
    replace HB2:=(HB2.ext e120).ext e213
    replace HB3:=(HB3.ext e120).ext e213
    exact bW (by rfl) (by rfl) HB2 (by rfl) HB3 zo zo zo E (by rw [bY,hcm,hz];exact if_neg hm)
   refine V (O zd (aa (bK Z) (ah (av zk (ci Z) (ae.mono (dK (n:=4) HR2 (if_neg hz)) ?_)))))
   rintro _ w121 ⟨rfl,e121⟩
   have:=e121.size
   refine aa (aG.as (b:=false) (aJ Z Z) zq) ?_
   refine aa (bH Z) (dz (u:=.bool false) Z Z Z ?_)
   refine dz (u:=.bool false) Z Z Z ?_
   refine aa (fG Z) ?_
   refine cj (cJ zk (cE Z) (bt.mono (dW (by rfl)) ?_))
   rintro ch w214 ⟨hch,e214⟩
   have:=e214.size
   refine bC ?_
   subst hch
   have hnn:bY l=none:=dV hcm hz
   replace E:=(E.trans e121.keep).trans e214.keep
   replace HB2:=(HB2.ext e121).ext e214
   replace HB3:=(HB3.ext e121).ext e214
   exact bW (by rfl) (by rfl) HB2 (by rfl) HB3 zo zo zo E hnn
  rw [h3] at hx;cases hx
 refine V (O zd (aa (aJ Z Z) ?_))
 refine aa (dl Z) (ac (U (am Z Z (fun h5=>?_) (fun h5=>?_))))
 ·
  refine ar (U (am Z Z (fun hx=>?_) (fun hx=>?_)))
  ·
   obtain rfl:k=5:=by have:=bl h5;omega
   by_cases g1:gn l1=none
   ·
    refine O zd (aa (bK Z) (cj (cJ zk (ci Z) (bt.mono (kC HR1 hF zo g1) ?_))))
    rintro ch w215 ⟨hch,k215⟩
    have:=k215.size
    refine gz ?_
    refine bC ?_
    subst hch
    replace E:=E.step k215 bi
    replace HB2:=HB2.keep k215 aH
    replace HB3:=HB3.keep k215 aH
    exact bW (by rfl) (by rfl) HB2 (by rfl) HB3 zo zo zo E (by simp [bY,dt,h0,g1])
   obtain ⟨⟨m,l2⟩,g1⟩:=Option.ne_none_iff_exists'.1 g1
   have bg1:=iv g1
   refine O zd (aa (bK Z) (ah (av zk (ci Z) (ae.mono (kD HR1 hF zo g1) ?_))))
   rintro _ w216 ⟨HG216,HR2,k216⟩
   have:=k216.size
   obtain ⟨a216a,c216a,a216b,c216b,rfl,_⟩:=HG216.mv
   have HGF:aY ga w216 (fun i=>n4≤i) (.agg #[.int .i64 5,.int .i64 0,.int .i64 0,.int .i64 0,.slice none 0 0,.slice none 0 0,.slice none 0 0,.slice none 0 0,.bool false,.int .i64 0,.int .i64 m.1,.slice a216a m.2.1.length c216a,.slice a216b m.2.2.1.length c216b,.bool m.2.2.2.1,.int .i64 m.2.2.2.2.1,.int .i64 m.2.2.2.2.2,.slice none 0 0,.slice none 0 0,.slice none 0 0,.int .i64 0]) _:=aY.mkCmF ⟨by decide,by decide⟩ fP (HG216.mono fun i _ h=>by omega) (bs.nil _ _ _) (fO.nil _ _) (fO.nil _ _) ⟨by decide,by decide⟩
   replace E:=E.step k216 bi
   replace HS1:=HS1.keep k216 aC
   replace HB2:=HB2.keep k216 aH
   replace HB3:=HB3.keep k216 aH
   obtain ⟨cm,hcmq⟩:∃ c:iq,dt l.length l=some (c,l2)∧aY ga w216 (fun i=>n4≤i) (.agg #[.int .i64 5,.int .i64 0,.int .i64 0,.int .i64 0,.slice none 0 0,.slice none 0 0,.slice none 0 0,.slice none 0 0,.bool false,.int .i64 0,.int .i64 m.1,.slice a216a m.2.1.length c216a,.slice a216b m.2.2.1.length c216b,.bool m.2.2.2.1,.int .i64 m.2.2.2.2.1,.int .i64 m.2.2.2.2.2,.slice none 0 0,.slice none 0 0,.slice none 0 0,.int .i64 0]) c:=⟨_,by simp [dt,h0,g1],HGF⟩
   obtain ⟨hcm,HGF⟩:=hcmq
   have HGc:=HGF.imp gE
   refine aa (aA 10 46 Z) (ah (aq (n:=6) Z Z (aZ Z) zk Z cT HB2 bV ?_))
   rintro w122 HB2 k122 z122
   have:=k122.size
   try simp only [zS,Nat.zero_add,Nat.reduceAdd,List.drop_nil] at HB2
   refine ac (bE (U ?_))
   replace E:=E.step k122 bi
   replace HS1:=HS1.keep k122 aC
   replace HB3:=HB3.keep k122 aH
   replace HG216:=HG216.keep k122 aC
   replace HR2:=HR2.keep k122 fB (by intro i hi he;have hi0:=hi;have hi:=hi;have he:=he;(try dsimp only [aP] at hi he);first | exact he.elim | omega | (have:=hF i hi0;omega))
   replace HGF:=HGF.keep k122 aC
   replace HGc:=HGc.keep k122 aC
   by_cases hz:l2=[]
   ·
    by_cases hm:eh cm=true
    ·
     refine V (O zd (aa (bK Z) (ah (av zk (ci Z) (ae.mono (dK (n:=0) HR2 (if_pos hz)) ?_)))))
     rintro _ w123 ⟨rfl,e123⟩
     have:=e123.size
     refine aa (aG.as (b:=true) (aJ Z Z) zq) ?_
     replace HB2:=HB2.ext e123
     replace HB3:=HB3.ext e123
     refine aa (bH Z) (dE Z Z (bx.of_v (ap zk Z (by first | exact HB3.pv | exact HB2.pv | assumption) Z) ?_))
     replace HGc:=HGc.ext e123
     refine dE Z Z (av zk (aZ Z) (ae.mono (dX (b:=true) HGc hm) ?_))
     rintro _ w124 ⟨rfl,e124⟩
     have:=e124.size
     refine aa (dn Z Z) ?_
     refine ah (av zk (cE Z) (ae.mono (gC (by rfl)) ?_))
     rintro _ w125 ⟨rfl,e125⟩
     have:=e125.size
     replace HB2:=(HB2.ext e124).ext e125
     replace HB3:=(HB3.ext e124).ext e125
     refine ac (U (V (O zd (aa (ap zk Z (by first | exact HB3.pv | exact HB2.pv | assumption) Z) ?_))))
     refine ah (aq (n:=20) Z Z (aZ Z) zk Z cT HB2 bV ?_)
     rintro w126 HB2 k126 z126
     have:=k126.size
     try simp only [zS,Nat.zero_add,Nat.reduceAdd,List.drop_nil] at HB2
     replace HB3:=HB3.keep k126 aH
     refine ah (aR Z Z (bB Z) Z zk HB3 bV ?_)
     rintro w127 HB3 k127 z127
     have:=k127.size
     try simp only [zS,Nat.zero_add,Nat.reduceAdd,List.drop_nil] at HB3
     refine ac (U (aw ?_))
     replace E:=((((E.trans e123.keep).trans e124.keep).trans e125.keep).step k126 bi).step k127 bi
     replace HGF:=((((HGF.ext e123).ext e124).ext e125).keep k126 aC).keep k127 aC
     replace HB2:=HB2.keep k127 aH
     exact eW (by rfl) (by rfl) HB2 (by rfl) HB3 (HGF.mono fun i _ h=>by omega) E (by rw [bY,hcm,hz];exact if_pos hm)
    refine V (O zd (aa (bK Z) (ah (av zk (ci Z) (ae.mono (dK (n:=0) HR2 (if_pos hz)) ?_)))))
    rintro _ w128 ⟨rfl,e128⟩
    have:=e128.size
    refine aa (aG.as (b:=true) (aJ Z Z) zq) ?_
    replace HB2:=HB2.ext e128
    replace HB3:=HB3.ext e128
    refine aa (bH Z) (dE Z Z (bx.of_v (ap zk Z (by first | exact HB3.pv | exact HB2.pv | assumption) Z) ?_))
    replace HGc:=HGc.ext e128
    refine dE Z Z (av zk (aZ Z) (ae.mono (dX (b:=false) HGc (by simpa using hm)) ?_))
    rintro _ w129 ⟨rfl,e129⟩
    have:=e129.size
    refine aa (dn Z Z) ?_
    refine cj (cJ zk (cE Z) (bt.mono (dW (by rfl)) ?_))
    rintro ch w217 ⟨hch,e217⟩
    have:=e217.size
    refine bC ?_
    subst hch
    replace E:=((E.trans e128.keep).trans e129.keep).trans e217.keep
    replace HB2:=(HB2.ext e129).ext e217
    replace HB3:=(HB3.ext e129).ext e217
    exact bW (by rfl) (by rfl) HB2 (by rfl) HB3 zo zo zo E (by rw [bY,hcm,hz];exact if_neg hm)
   refine V (O zd (aa (bK Z) (ah (av zk (ci Z) (ae.mono (dK (n:=4) HR2 (if_neg hz)) ?_)))))
   rintro _ w130 ⟨rfl,e130⟩
   have:=e130.size
   refine aa (aG.as (b:=false) (aJ Z Z) zq) ?_
   refine aa (bH Z) (dz (u:=.bool false) Z Z Z ?_)
   refine dz (u:=.bool false) Z Z Z ?_
   refine aa (fG Z) ?_
   refine cj (cJ zk (cE Z) (bt.mono (dW (by rfl)) ?_))
   rintro ch w218 ⟨hch,e218⟩
   have:=e218.size
   refine bC ?_
   subst hch
   have hnn:bY l=none:=dV hcm hz
   replace E:=(E.trans e130.keep).trans e218.keep
   replace HB2:=(HB2.ext e130).ext e218
   replace HB3:=(HB3.ext e130).ext e218
   exact bW (by rfl) (by rfl) HB2 (by rfl) HB3 zo zo zo E hnn
  rw [h5] at hx;cases hx
 refine V (O zd (aa (aJ Z Z) ?_))
 refine aa (dl Z) (ac (U (am Z Z (fun h9=>?_) (fun h9=>?_))))
 ·
  refine ar (U (am Z Z (fun hx=>?_) (fun hx=>?_)))
  ·
   obtain rfl:k=9:=by have:=bl h9;omega
   by_cases g1:gn l1=none
   ·
    refine O zd (aa (bK Z) (cj (cJ zk (ci Z) (bt.mono (kC HR1 hF zo g1) ?_))))
    rintro ch w219 ⟨hch,k219⟩
    have:=k219.size
    refine gz ?_
    refine bC ?_
    subst hch
    replace E:=E.step k219 bi
    replace HB2:=HB2.keep k219 aH
    replace HB3:=HB3.keep k219 aH
    exact bW (by rfl) (by rfl) HB2 (by rfl) HB3 zo zo zo E (by simp [bY,dt,h0,g1])
   obtain ⟨⟨m,l2⟩,g1⟩:=Option.ne_none_iff_exists'.1 g1
   have bg1:=iv g1
   refine O zd (aa (bK Z) (ah (av zk (ci Z) (ae.mono (kD HR1 hF zo g1) ?_))))
   rintro _ w220 ⟨HG220,HR2,k220⟩
   have:=k220.size
   obtain ⟨a220a,c220a,a220b,c220b,rfl,_⟩:=HG220.mv
   have HGF:aY ga w220 (fun i=>n4≤i) (.agg #[.int .i64 9,.int .i64 0,.int .i64 0,.int .i64 0,.slice none 0 0,.slice none 0 0,.slice none 0 0,.slice none 0 0,.bool false,.int .i64 0,.int .i64 m.1,.slice a220a m.2.1.length c220a,.slice a220b m.2.2.1.length c220b,.bool m.2.2.2.1,.int .i64 m.2.2.2.2.1,.int .i64 m.2.2.2.2.2,.slice none 0 0,.slice none 0 0,.slice none 0 0,.int .i64 0]) _:=aY.mkCmF ⟨by decide,by decide⟩ fP (HG220.mono fun i _ h=>by omega) (bs.nil _ _ _) (fO.nil _ _) (fO.nil _ _) ⟨by decide,by decide⟩
   replace E:=E.step k220 bi
   replace HS1:=HS1.keep k220 aC
   replace HB2:=HB2.keep k220 aH
   replace HB3:=HB3.keep k220 aH
   obtain ⟨cm,hcmq⟩:∃ c:iq,dt l.length l=some (c,l2)∧aY ga w220 (fun i=>n4≤i) (.agg #[.int .i64 9,.int .i64 0,.int .i64 0,.int .i64 0,.slice none 0 0,.slice none 0 0,.slice none 0 0,.slice none 0 0,.bool false,.int .i64 0,.int .i64 m.1,.slice a220a m.2.1.length c220a,.slice a220b m.2.2.1.length c220b,.bool m.2.2.2.1,.int .i64 m.2.2.2.2.1,.int .i64 m.2.2.2.2.2,.slice none 0 0,.slice none 0 0,.slice none 0 0,.int .i64 0]) c:=⟨_,by simp [dt,h0,g1],HGF⟩
   obtain ⟨hcm,HGF⟩:=hcmq
   have HGc:=HGF.imp gE
   refine aa (aA 10 46 Z) (ah (aq (n:=6) Z Z (aZ Z) zk Z cT HB2 bV ?_))
   rintro w131 HB2 k131 z131
   have:=k131.size
   try simp only [zS,Nat.zero_add,Nat.reduceAdd,List.drop_nil] at HB2
   refine ac (bE (U ?_))
   replace E:=E.step k131 bi
   replace HS1:=HS1.keep k131 aC
   replace HB3:=HB3.keep k131 aH
   replace HG220:=HG220.keep k131 aC
   replace HR2:=HR2.keep k131 fB (by intro i hi he;have hi0:=hi;have hi:=hi;have he:=he;(try dsimp only [aP] at hi he);first | exact he.elim | omega | (have:=hF i hi0;omega))
   replace HGF:=HGF.keep k131 aC
   replace HGc:=HGc.keep k131 aC
   by_cases hz:l2=[]
   ·
    by_cases hm:eh cm=true
    ·
     refine V (O zd (aa (bK Z) (ah (av zk (ci Z) (ae.mono (dK (n:=0) HR2 (if_pos hz)) ?_)))))
     rintro _ w132 ⟨rfl,e132⟩
     have:=e132.size
     refine aa (aG.as (b:=true) (aJ Z Z) zq) ?_
     replace HB2:=HB2.ext e132
     replace HB3:=HB3.ext e132
     refine aa (bH Z) (dE Z Z (bx.of_v (ap zk Z (by first | exact HB3.pv | exact HB2.pv | assumption) Z) ?_))
     replace HGc:=HGc.ext e132
     refine dE Z Z (av zk (aZ Z) (ae.mono (dX (b:=true) HGc hm) ?_))
     rintro _ w133 ⟨rfl,e133⟩
     have:=e133.size
     refine aa (dn Z Z) ?_
     refine ah (av zk (cE Z) (ae.mono (gC (by rfl)) ?_))
     rintro _ w134 ⟨rfl,e134⟩
     have:=e134.size
     replace HB2:=(HB2.ext e133).ext e134
     replace HB3:=(HB3.ext e133).ext e134
     refine ac (U (V (O zd (aa (ap zk Z (by first | exact HB3.pv | exact HB2.pv | assumption) Z) ?_))))
     refine ah (aq (n:=20) Z Z (aZ Z) zk Z cT HB2 bV ?_)
     rintro w135 HB2 k135 z135
     have:=k135.size
     try simp only [zS,Nat.zero_add,Nat.reduceAdd,List.drop_nil] at HB2
     replace HB3:=HB3.keep k135 aH
     refine ah (aR Z Z (bB Z) Z zk HB3 bV ?_)
     rintro w136 HB3 k136 z136
     have:=k136.size
     try simp only [zS,Nat.zero_add,Nat.reduceAdd,List.drop_nil] at HB3
     refine ac (U (aw ?_))
     replace E:=((((E.trans e132.keep).trans e133.keep).trans e134.keep).step k135 bi).step k136 bi
     replace HGF:=((((HGF.ext e132).ext e133).ext e134).keep k135 aC).keep k136 aC
     replace HB2:=HB2.keep k136 aH
     exact eW (by rfl) (by rfl) HB2 (by rfl) HB3 (HGF.mono fun i _ h=>by omega) E (by rw [bY,hcm,hz];exact if_pos hm)
    refine V (O zd (aa (bK Z) (ah (av zk (ci Z) (ae.mono (dK (n:=0) HR2 (if_pos hz)) ?_)))))
    rintro _ w137 ⟨rfl,e137⟩
    have:=e137.size
    refine aa (aG.as (b:=true) (aJ Z Z) zq) ?_
    replace HB2:=HB2.ext e137
    replace HB3:=HB3.ext e137
    refine aa (bH Z) (dE Z Z (bx.of_v (ap zk Z (by first | exact HB3.pv | exact HB2.pv | assumption) Z) ?_))
    replace HGc:=HGc.ext e137
    refine dE Z Z (av zk (aZ Z) (ae.mono (dX (b:=false) HGc (by simpa using hm)) ?_))
    rintro _ w138 ⟨rfl,e138⟩
    have:=e138.size
    refine aa (dn Z Z) ?_
    refine cj (cJ zk (cE Z) (bt.mono (dW (by rfl)) ?_))
    rintro ch w221 ⟨hch,e221⟩
    have:=e221.size
    refine bC ?_
    subst hch
    replace E:=((E.trans e137.keep).trans e138.keep).trans e221.keep
    replace HB2:=(HB2.ext e138).ext e221
    replace HB3:=(HB3.ext e138).ext e221
    exact bW (by rfl) (by rfl) HB2 (by rfl) HB3 zo zo zo E (by rw [bY,hcm,hz];exact if_neg hm)
   refine V (O zd (aa (bK Z) (ah (av zk (ci Z) (ae.mono (dK (n:=4) HR2 (if_neg hz)) ?_)))))
   rintro _ w139 ⟨rfl,e139⟩
   have:=e139.size
   refine aa (aG.as (b:=false) (aJ Z Z) zq) ?_
   refine aa (bH Z) (dz (u:=.bool false) Z Z Z ?_)
   refine dz (u:=.bool false) Z Z Z ?_
   refine aa (fG Z) ?_
   refine cj (cJ zk (cE Z) (bt.mono (dW (by rfl)) ?_))
   rintro ch w222 ⟨hch,e222⟩
   have:=e222.size
   refine bC ?_
   subst hch
   have hnn:bY l=none:=dV hcm hz
   replace E:=(E.trans e139.keep).trans e222.keep
   replace HB2:=(HB2.ext e139).ext e222
   replace HB3:=(HB3.ext e139).ext e222
   exact bW (by rfl) (by rfl) HB2 (by rfl) HB3 zo zo zo E hnn
  rw [h9] at hx;cases hx
 refine O zd (aa (aJ Z Z) ?_)
 refine aa (dl Z) (ac (U (am Z Z (fun h10=>?_) (fun h10=>?_))))
 ·
  obtain rfl:k=10:=by have:=bl h10;omega
  by_cases g1:gn l1=none
  ·
   refine O zd (aa (bK Z) (cj (cJ zk (ci Z) (bt.mono (kC HR1 hF zo g1) ?_))))
   rintro ch w223 ⟨hch,k223⟩
   have:=k223.size
   refine gz ?_
   refine bC ?_
   subst hch
   replace E:=E.step k223 bi
   replace HB2:=HB2.keep k223 aH
   replace HB3:=HB3.keep k223 aH
   exact bW (by rfl) (by rfl) HB2 (by rfl) HB3 zo zo zo E (by simp [bY,dt,h0,g1])
  obtain ⟨⟨m,l2⟩,g1⟩:=Option.ne_none_iff_exists'.1 g1
  have bg1:=iv g1
  refine O zd (aa (bK Z) (ah (av zk (ci Z) (ae.mono (kD HR1 hF zo g1) ?_))))
  rintro _ w224 ⟨HG224,HR2,k224⟩
  have:=k224.size
  obtain ⟨a224a,c224a,a224b,c224b,rfl,_⟩:=HG224.mv
  have HGF:aY ga w224 (fun i=>n4≤i) (.agg #[.int .i64 10,.int .i64 0,.int .i64 0,.int .i64 0,.slice none 0 0,.slice none 0 0,.slice none 0 0,.slice none 0 0,.bool false,.int .i64 0,.int .i64 m.1,.slice a224a m.2.1.length c224a,.slice a224b m.2.2.1.length c224b,.bool m.2.2.2.1,.int .i64 m.2.2.2.2.1,.int .i64 m.2.2.2.2.2,.slice none 0 0,.slice none 0 0,.slice none 0 0,.int .i64 0]) _:=aY.mkCmF ⟨by decide,by decide⟩ fP (HG224.mono fun i _ h=>by omega) (bs.nil _ _ _) (fO.nil _ _) (fO.nil _ _) ⟨by decide,by decide⟩
  replace E:=E.step k224 bi
  replace HS1:=HS1.keep k224 aC
  replace HB2:=HB2.keep k224 aH
  replace HB3:=HB3.keep k224 aH
  obtain ⟨cm,hcmq⟩:∃ c:iq,dt l.length l=some (c,l2)∧aY ga w224 (fun i=>n4≤i) (.agg #[.int .i64 10,.int .i64 0,.int .i64 0,.int .i64 0,.slice none 0 0,.slice none 0 0,.slice none 0 0,.slice none 0 0,.bool false,.int .i64 0,.int .i64 m.1,.slice a224a m.2.1.length c224a,.slice a224b m.2.2.1.length c224b,.bool m.2.2.2.1,.int .i64 m.2.2.2.2.1,.int .i64 m.2.2.2.2.2,.slice none 0 0,.slice none 0 0,.slice none 0 0,.int .i64 0]) c:=⟨_,by simp [dt,h0,g1],HGF⟩
  obtain ⟨hcm,HGF⟩:=hcmq
  have HGc:=HGF.imp gE
  refine aa (aA 10 46 Z) (ah (aq (n:=6) Z Z (aZ Z) zk Z cT HB2 bV ?_))
  rintro w140 HB2 k140 z140
  have:=k140.size
  try simp only [zS,Nat.zero_add,Nat.reduceAdd,List.drop_nil] at HB2
  refine ac (bE (U ?_))
  replace E:=E.step k140 bi
  replace HS1:=HS1.keep k140 aC
  replace HB3:=HB3.keep k140 aH
  replace HG224:=HG224.keep k140 aC
  replace HR2:=HR2.keep k140 fB (by intro i hi he;have hi0:=hi;have hi:=hi;have he:=he;(try dsimp only [aP] at hi he);first | exact he.elim | omega | (have:=hF i hi0;omega))
  replace HGF:=HGF.keep k140 aC
  replace HGc:=HGc.keep k140 aC
  by_cases hz:l2=[]
  ·
   by_cases hm:eh cm=true
   ·
    refine V (O zd (aa (bK Z) (ah (av zk (ci Z) (ae.mono (dK (n:=0) HR2 (if_pos hz)) ?_)))))
    rintro _ w141 ⟨rfl,e141⟩
    have:=e141.size
    refine aa (aG.as (b:=true) (aJ Z Z) zq) ?_
    replace HB2:=HB2.ext e141
    replace HB3:=HB3.ext e141
    refine aa (bH Z) (dE Z Z (bx.of_v (ap zk Z (by first | exact HB3.pv | exact HB2.pv | assumption) Z) ?_))
    replace HGc:=HGc.ext e141
    refine dE Z Z (av zk (aZ Z) (ae.mono (dX (b:=true) HGc hm) ?_))
    rintro _ w142 ⟨rfl,e142⟩
    have:=e142.size
    refine aa (dn Z Z) ?_
    refine ah (av zk (cE Z) (ae.mono (gC (by rfl)) ?_))
    rintro _ w143 ⟨rfl,e143⟩
    have:=e143.size
    replace HB2:=(HB2.ext e142).ext e143
    replace HB3:=(HB3.ext e142).ext e143
    refine ac (U (V (O zd (aa (ap zk Z (by first | exact HB3.pv | exact HB2.pv | assumption) Z) ?_))))
    refine ah (aq (n:=20) Z Z (aZ Z) zk Z cT HB2 bV ?_)
    rintro w144 HB2 k144 z144
    have:=k144.size
    try simp only [zS,Nat.zero_add,Nat.reduceAdd,List.drop_nil] at HB2
    replace HB3:=HB3.keep k144 aH
    refine ah (aR Z Z (bB Z) Z zk HB3 bV ?_)
    rintro w145 HB3 k145 z145
    have:=k145.size
    try simp only [zS,Nat.zero_add,Nat.reduceAdd,List.drop_nil] at HB3
    refine ac (U (aw ?_))
    replace E:=((((E.trans e141.keep).trans e142.keep).trans e143.keep).step k144 bi).step k145 bi
    replace HGF:=((((HGF.ext e141).ext e142).ext e143).keep k144 aC).keep k145 aC
    replace HB2:=HB2.keep k145 aH
    exact eW (by rfl) (by rfl) HB2 (by rfl) HB3 (HGF.mono fun i _ h=>by omega) E (by rw [bY,hcm,hz];exact if_pos hm)
   refine V (O zd (aa (bK Z) (ah (av zk (ci Z) (ae.mono (dK (n:=0) HR2 (if_pos hz)) ?_)))))
   rintro _ w146 ⟨rfl,e146⟩
   have:=e146.size
   refine aa (aG.as (b:=true) (aJ Z Z) zq) ?_
   replace HB2:=HB2.ext e146
   replace HB3:=HB3.ext e146
   refine aa (bH Z) (dE Z Z (bx.of_v (ap zk Z (by first | exact HB3.pv | exact HB2.pv | assumption) Z) ?_))
   replace HGc:=HGc.ext e146
   refine dE Z Z (av zk (aZ Z) (ae.mono (dX (b:=false) HGc (by simpa using hm)) ?_))
   rintro _ w147 ⟨rfl,e147⟩
   have:=e147.size
   refine aa (dn Z Z) ?_
   refine cj (cJ zk (cE Z) (bt.mono (dW (by rfl)) ?_))
   rintro ch w225 ⟨hch,e225⟩
   have:=e225.size
   refine bC ?_
   subst hch
   replace E:=((E.trans e146.keep).trans e147.keep).trans e225.keep
   replace HB2:=(HB2.ext e147).ext e225
   replace HB3:=(HB3.ext e147).ext e225
   exact bW (by rfl) (by rfl) HB2 (by rfl) HB3 zo zo zo E (by rw [bY,hcm,hz];exact if_neg hm)
  refine V (O zd (aa (bK Z) (ah (av zk (ci Z) (ae.mono (dK (n:=4) HR2 (if_neg hz)) ?_)))))
  rintro _ w148 ⟨rfl,e148⟩
  have:=e148.size
  refine aa (aG.as (b:=false) (aJ Z Z) zq) ?_
  refine aa (bH Z) (dz (u:=.bool false) Z Z Z ?_)
  refine dz (u:=.bool false) Z Z Z ?_
  refine aa (fG Z) ?_
  refine cj (cJ zk (cE Z) (bt.mono (dW (by rfl)) ?_))
  rintro ch w226 ⟨hch,e226⟩
  have:=e226.size
  refine bC ?_
  subst hch
  have hnn:bY l=none:=dV hcm hz
  replace E:=(E.trans e148.keep).trans e226.keep
  replace HB2:=(HB2.ext e148).ext e226
  replace HB3:=(HB3.ext e148).ext e226
  exact bW (by rfl) (by rfl) HB2 (by rfl) HB3 zo zo zo E hnn
 refine V (O zd (aa (aJ Z Z) ?_))
 refine aa (dl Z) (ac (U (am Z Z (fun h4=>?_) (fun h4=>?_))))
 ·
  obtain rfl:k=4:=by have:=bl h4;omega
  by_cases g1:gn l1=none
  ·
   refine V (O zd (aa (bK Z) (cj (cJ zk (ci Z) (bt.mono (kC HR1 hF zo g1) ?_)))))
   rintro ch w227 ⟨hch,k227⟩
   have:=k227.size
   refine bC ?_
   refine gz ?_
   refine bC ?_
   subst hch
   replace E:=E.step k227 bi
   replace HB2:=HB2.keep k227 aH
   replace HB3:=HB3.keep k227 aH
   exact bW (by rfl) (by rfl) HB2 (by rfl) HB3 zo zo zo E (by simp [bY,dt,h0,g1])
  refine V ?_
  obtain ⟨⟨m,l2⟩,g1⟩:=Option.ne_none_iff_exists'.1 g1
  have bg1:=iv g1
  refine O zd (aa (bK Z) (ah (av zk (ci Z) (ae.mono (kD HR1 hF zo g1) ?_))))
  rintro _ w228 ⟨HG228,HR2,k228⟩
  have:=k228.size
  obtain ⟨a228a,c228a,a228b,c228b,rfl,_⟩:=HG228.mv
  replace HB2:=HB2.keep k228 aH
  refine aa (aA 10 46 Z) (ah (aq (n:=6) Z Z (aZ Z) zk Z cT HB2 bV ?_))
  rintro w149 HB2 k149 z149
  have:=k149.size
  try simp only [zS,Nat.zero_add,Nat.reduceAdd,List.drop_nil] at HB2
  refine ac (U ?_)
  replace E:=(E.step k228 bi).step k149 bi
  replace HS1:=(HS1.keep k228 aC).keep k149 aC
  replace HB3:=(HB3.keep k228 aH).keep k149 aH
  replace HG228:=HG228.keep k149 aC
  replace HR2:=HR2.keep k149 fB (by intro i hi he;have hi0:=hi;have hi:=hi;have he:=he;(try dsimp only [aP] at hi he);first | exact he.elim | omega | (have:=hF i hi0;omega))
  by_cases g2:dU l.length l2=none
  ·
   refine V (O zd (aa (bK Z) (aa (bP Z) (aa (ba (et:=5) zk Z) ?_))))
   refine cj (ei zk (ci Z) (bB Z) (bt.mono (iT (most:=((l.length:Nat):Int)) HR2 hF zo zo zo g2) ?_))
   rintro ch w229 ⟨hch,k229⟩
   have:=k229.size
   refine bC ?_
   refine gz ?_
   refine bC ?_
   subst hch
   replace E:=E.step k229 bi
   replace HB2:=HB2.keep k229 aH
   replace HB3:=HB3.keep k229 aH
   exact bW (by rfl) (by rfl) HB2 (by rfl) HB3 zo zo zo E (by simp [bY,dt,h0,g1,g2])
  refine V ?_
  obtain ⟨⟨x,l3⟩,g2⟩:=Option.ne_none_iff_exists'.1 g2
  have bg2:=cW g2
  refine O zd (aa (bK Z) (aa (bP Z) (aa (ba (et:=5) zk Z) ?_)))
  refine ah (aW zk (ci Z) (bB Z) (ae.mono (iU (most:=((l.length:Nat):Int)) HR2 hF zo zo zo g2) ?_))
  rintro _ w230 ⟨⟨a230,c230,rfl,HF230⟩,HR3,k230⟩
  have:=k230.size
  refine ah (av zk (bI Z) (ae.mono (uD HF230.bv (by have:=bg2.2.1;omega)) ?_))
  replace HS1:=HS1.keep k230 aC
  replace HG228:=HG228.keep k230 aC
  rintro _ w400 ⟨⟨a400,c400,en,er,rfl,HS400,hx400⟩,e400⟩
  have:=e400.size
  refine aa (dY Z) (aa (ai (t:=.slice _ _ _) Z Z) (aa (ai (t:=.int _ _) Z Z) (aa (cF Z) (aa (bO Z) (ac (U ?_))))))
  replace E:=(E.step k230 bi).trans e400.keep
  replace HB2:=(HB2.keep k230 aH).ext e400
  replace HB3:=(HB3.keep k230 aH).ext e400
  replace HS1:=HS1.ext e400
  replace HG228:=HG228.ext e400
  replace HF230:=HF230.ext e400
  replace HR3:=HR3.ext e400
  by_cases g3:lm x=none
  ·
   refine V (O zd (aa (aQ Z) (aa (aJ Z Z) ?_)))
   refine cj (cJ zk (cE Z) (bt.mono (dW (decide_eq_false (by rcases hx400 with ⟨_,h⟩ | ⟨h,_⟩;(rw [g3] at h;cases h);omega))) ?_))
   rintro ch w401 ⟨hch,e401⟩
   have:=e401.size
   refine bC ?_
   refine gz ?_
   refine bC ?_
   subst hch
   replace E:=E.trans e401.keep
   replace HB2:=HB2.ext e401
   replace HB3:=HB3.ext e401
   exact bW (by rfl) (by rfl) HB2 (by rfl) HB3 zo zo zo E (by simp [bY,dt,h0,g1,g2,g3])
  refine V ?_
  obtain ⟨rfl,g3⟩:er=0∧lm x=some en:=by rcases hx400 with h | ⟨_,_,h⟩;exact h;exact absurd h g3
  refine O zd (aa (aQ Z) (aa (aJ Z Z) ?_))
  refine ah (av zk (cE Z) (ae.mono (gC (by rfl)) ?_))
  rintro _ w150 ⟨rfl,e150⟩
  have:=e150.size
  refine ac (U ?_)
  replace E:=E.trans e150.keep
  replace HS1:=HS1.ext e150
  replace HB2:=HB2.ext e150
  replace HB3:=HB3.ext e150
  replace HG228:=HG228.ext e150
  replace HR3:=HR3.ext e150
  replace HS400:=HS400.ext e150
  by_cases g4:dU 524288 l3=none
  ·
   refine O zd (aa (bP Z) (aa (bK Z) (cj (ei zk (ci Z) (bB Z) (bt.mono (iT (most:=((524288:Nat):Int)) HR3 hF zo zo zo g4) ?_)))))
   rintro ch w231 ⟨hch,k231⟩
   have:=k231.size
   refine gz ?_
   refine bC ?_
   subst hch
   replace E:=E.step k231 bi
   replace HB2:=HB2.keep k231 aH
   replace HB3:=HB3.keep k231 aH
   exact bW (by rfl) (by rfl) HB2 (by rfl) HB3 zo zo zo E (by simp [bY,dt,h0,g1,g2,g3,g4])
  obtain ⟨⟨an,l4⟩,g4⟩:=Option.ne_none_iff_exists'.1 g4
  have bg4:=cW g4
  refine O zd (aa (bP Z) (aa (bK Z) (ah (aW zk (ci Z) (bB Z) (ae.mono (iU (most:=((524288:Nat):Int)) HR3 hF zo zo zo g4) ?_)))))
  rintro _ w232 ⟨⟨a232,c232,rfl,HF232⟩,HR4,k232⟩
  have:=k232.size
  replace HG228:=HG228.keep k232 aC
  replace HS400:=HS400.keep k232 aC
  have HGF:aY ga w232 (fun i=>n4≤i) (.agg #[.int .i64 4,.int .i64 0,.int .i64 0,.int .i64 0,.slice none 0 0,.slice none 0 0,.slice none 0 0,.slice none 0 0,.bool false,.int .i64 0,.int .i64 m.1,.slice a228a m.2.1.length c228a,.slice a228b m.2.2.1.length c228b,.bool m.2.2.2.1,.int .i64 m.2.2.2.2.1,.int .i64 m.2.2.2.2.2,.slice a400 en.length c400,.slice a232 an.length c232,.slice none 0 0,.int .i64 0]) _:=aY.mkCmF ⟨by decide,by decide⟩ fP (HG228.mono fun i _ h=>by omega) (HS400.mono fun i _ h=>by omega) (HF232.mono fun i _ h=>by omega) (fO.nil _ _) ⟨by decide,by decide⟩
  replace E:=E.step k232 bi
  replace HS1:=HS1.keep k232 aC
  replace HB2:=HB2.keep k232 aH
  replace HB3:=HB3.keep k232 aH
  obtain ⟨cm,hcmq⟩:∃ c:iq,dt l.length l=some (c,l4)∧aY ga w232 (fun i=>n4≤i) (.agg #[.int .i64 4,.int .i64 0,.int .i64 0,.int .i64 0,.slice none 0 0,.slice none 0 0,.slice none 0 0,.slice none 0 0,.bool false,.int .i64 0,.int .i64 m.1,.slice a228a m.2.1.length c228a,.slice a228b m.2.2.1.length c228b,.bool m.2.2.2.1,.int .i64 m.2.2.2.2.1,.int .i64 m.2.2.2.2.2,.slice a400 en.length c400,.slice a232 an.length c232,.slice none 0 0,.int .i64 0]) c:=⟨_,by simp [dt,h0,g1,g2,g3,g4],HGF⟩
  obtain ⟨hcm,HGF⟩:=hcmq
  have HGc:=HGF.imp gE
  refine aa (aA 16 47 Z) (ah (aR Z Z (bI Z) Z zk HB2 bV ?_))
  rintro w151 HB2 k151 z151
  have:=k151.size
  try simp only [zS,Nat.zero_add,Nat.reduceAdd,List.drop_nil] at HB2
  refine aa (aA 17 28 Z) (ah (aR Z Z (bI Z) Z zk HB2 bV ?_))
  rintro w152 HB2 k152 z152
  have:=k152.size
  try simp only [zS,Nat.zero_add,Nat.reduceAdd,List.drop_nil] at HB2
  refine ac (bE (U ?_))
  replace E:=(E.step k151 bi).step k152 bi
  replace HS1:=(HS1.keep k151 aC).keep k152 aC
  replace HB3:=(HB3.keep k151 aH).keep k152 aH
  replace HG228:=(HG228.keep k151 aC).keep k152 aC
  replace HS400:=(HS400.keep k151 aC).keep k152 aC
  replace HF232:=(HF232.keep k151 eU).keep k152 eU
  replace HR4:=(HR4.keep k151 fB (by intro i hi he;have hi0:=hi;have hi:=hi;have he:=he;(try dsimp only [aP] at hi he);first | exact he.elim | omega | (have:=hF i hi0;omega))).keep k152 fB (by intro i hi he;have hi0:=hi;have hi:=hi;have he:=he;(try dsimp only [aP] at hi he);first | exact he.elim | omega | (have:=hF i hi0;omega))
  replace HGF:=(HGF.keep k151 aC).keep k152 aC
  replace HGc:=(HGc.keep k151 aC).keep k152 aC
  by_cases hz:l4=[]
  ·
   by_cases hm:eh cm=true
   ·
    refine V (O zd (aa (bK Z) (ah (av zk (ci Z) (ae.mono (dK (n:=0) HR4 (if_pos hz)) ?_)))))
    rintro _ w153 ⟨rfl,e153⟩
    have:=e153.size
    refine aa (aG.as (b:=true) (aJ Z Z) zq) ?_
    replace HB2:=HB2.ext e153
    replace HB3:=HB3.ext e153
    refine aa (bH Z) (dE Z Z (bx.of_v (ap zk Z (by first | exact HB3.pv | exact HB2.pv | assumption) Z) ?_))
    replace HGc:=HGc.ext e153
    refine dE Z Z (av zk (aZ Z) (ae.mono (dX (b:=true) HGc hm) ?_))
    rintro _ w154 ⟨rfl,e154⟩
    have:=e154.size
    refine aa (dn Z Z) ?_
    refine ah (av zk (cE Z) (ae.mono (gC (by rfl)) ?_))
    rintro _ w155 ⟨rfl,e155⟩
    have:=e155.size
    replace HB2:=(HB2.ext e154).ext e155
    replace HB3:=(HB3.ext e154).ext e155
    refine ac (U (V (O zd (aa (ap zk Z (by first | exact HB3.pv | exact HB2.pv | assumption) Z) ?_))))
    refine ah (aq (n:=20) Z Z (aZ Z) zk Z cT HB2 bV ?_)
    rintro w156 HB2 k156 z156
    have:=k156.size
    try simp only [zS,Nat.zero_add,Nat.reduceAdd,List.drop_nil] at HB2
    replace HB3:=HB3.keep k156 aH
    refine ah (aR Z Z (bB Z) Z zk HB3 bV ?_)
    rintro w157 HB3 k157 z157
    have:=k157.size
    try simp only [zS,Nat.zero_add,Nat.reduceAdd,List.drop_nil] at HB3
    refine ac (U (aw ?_))
    replace E:=((((E.trans e153.keep).trans e154.keep).trans e155.keep).step k156 bi).step k157 bi
    replace HGF:=((((HGF.ext e153).ext e154).ext e155).keep k156 aC).keep k157 aC
    replace HB2:=HB2.keep k157 aH
    exact eW (by rfl) (by rfl) HB2 (by rfl) HB3 (HGF.mono fun i _ h=>by omega) E (by rw [bY,hcm,hz];exact if_pos hm)
   refine V (O zd (aa (bK Z) (ah (av zk (ci Z) (ae.mono (dK (n:=0) HR4 (if_pos hz)) ?_)))))
   rintro _ w158 ⟨rfl,e158⟩
   have:=e158.size
   refine aa (aG.as (b:=true) (aJ Z Z) zq) ?_
   replace HB2:=HB2.ext e158
   replace HB3:=HB3.ext e158
   refine aa (bH Z) (dE Z Z (bx.of_v (ap zk Z (by first | exact HB3.pv | exact HB2.pv | assumption) Z) ?_))
   replace HGc:=HGc.ext e158
   refine dE Z Z (av zk (aZ Z) (ae.mono (dX (b:=false) HGc (by simpa using hm)) ?_))
   rintro _ w159 ⟨rfl,e159⟩
   have:=e159.size
   refine aa (dn Z Z) ?_
   refine cj (cJ zk (cE Z) (bt.mono (dW (by rfl)) ?_))
   rintro ch w233 ⟨hch,e233⟩
   have:=e233.size
   refine bC ?_
   subst hch
   replace E:=((E.trans e158.keep).trans e159.keep).trans e233.keep
   replace HB2:=(HB2.ext e159).ext e233
   replace HB3:=(HB3.ext e159).ext e233
   exact bW (by rfl) (by rfl) HB2 (by rfl) HB3 zo zo zo E (by rw [bY,hcm,hz];exact if_neg hm)
  refine V (O zd (aa (bK Z) (ah (av zk (ci Z) (ae.mono (dK (n:=4) HR4 (if_neg hz)) ?_)))))
  rintro _ w160 ⟨rfl,e160⟩
  have:=e160.size
  refine aa (aG.as (b:=false) (aJ Z Z) zq) ?_
  refine aa (bH Z) (dz (u:=.bool false) Z Z Z ?_)
  refine dz (u:=.bool false) Z Z Z ?_
  refine aa (fG Z) ?_
  refine cj (cJ zk (cE Z) (bt.mono (dW (by rfl)) ?_))
  rintro ch w234 ⟨hch,e234⟩
  have:=e234.size
  refine bC ?_
  subst hch
  have hnn:bY l=none:=dV hcm hz
  replace E:=(E.trans e160.keep).trans e234.keep
  replace HB2:=(HB2.ext e160).ext e234
  replace HB3:=(HB3.ext e160).ext e234
  exact bW (by rfl) (by rfl) HB2 (by rfl) HB3 zo zo zo E hnn
 refine V (V (O zd (aa (aJ Z Z) ?_)))
 refine aa (dl Z) (ac (U (am Z Z (fun h6=>?_) (fun h6=>?_))))
 ·
  refine ar (U (am Z Z (fun hx=>?_) (fun hx=>?_)))
  ·
   obtain rfl:k=6:=by have:=bl h6;omega
   by_cases g1:dU 24 l1=none
   ·
    refine O zd (aa (bK Z) (cj (ei zk (ci Z) (bB Z) (bt.mono (iT (most:=((24:Nat):Int)) HR1 hF zo zo zo g1) ?_))))
    rintro ch w235 ⟨hch,k235⟩
    have:=k235.size
    refine gz ?_
    refine bC ?_
    subst hch
    replace E:=E.step k235 bi
    replace HB2:=HB2.keep k235 aH
    replace HB3:=HB3.keep k235 aH
    exact bW (by rfl) (by rfl) HB2 (by rfl) HB3 zo zo zo E (by simp [bY,dt,h0,g1])
   obtain ⟨⟨key,l2⟩,g1⟩:=Option.ne_none_iff_exists'.1 g1
   have bg1:=cW g1
   refine O zd (aa (bK Z) (ah (aW zk (ci Z) (bB Z) (ae.mono (iU (most:=((24:Nat):Int)) HR1 hF zo zo zo g1) ?_))))
   rintro _ w236 ⟨⟨a236,c236,rfl,HF236⟩,HR2,k236⟩
   have:=k236.size
   have HGF:aY ga w236 (fun i=>n4≤i) (.agg #[.int .i64 6,.int .i64 0,.int .i64 0,.int .i64 0,.slice none 0 0,.slice none 0 0,.slice none 0 0,.slice none 0 0,.bool false,.int .i64 0,.int .i64 0,.slice none 0 0,.slice none 0 0,.bool false,.int .i64 0,.int .i64 0,.slice none 0 0,.slice none 0 0,.slice a236 key.length c236,.int .i64 0]) _:=aY.mkCmF ⟨by decide,by decide⟩ fP fL (bs.nil _ _ _) (fO.nil _ _) (HF236.mono fun i _ h=>by omega) ⟨by decide,by decide⟩
   replace E:=E.step k236 bi
   replace HS1:=HS1.keep k236 aC
   replace HB2:=HB2.keep k236 aH
   replace HB3:=HB3.keep k236 aH
   obtain ⟨cm,hcmq⟩:∃ c:iq,dt l.length l=some (c,l2)∧aY ga w236 (fun i=>n4≤i) (.agg #[.int .i64 6,.int .i64 0,.int .i64 0,.int .i64 0,.slice none 0 0,.slice none 0 0,.slice none 0 0,.slice none 0 0,.bool false,.int .i64 0,.int .i64 0,.slice none 0 0,.slice none 0 0,.bool false,.int .i64 0,.int .i64 0,.slice none 0 0,.slice none 0 0,.slice a236 key.length c236,.int .i64 0]) c:=⟨_,by simp [dt,h0,g1],HGF⟩
   obtain ⟨hcm,HGF⟩:=hcmq
   have HGc:=HGF.imp gE
   refine aa (aA 18 28 Z) (ah (aR Z Z (bI Z) Z zk HB2 bV ?_))
   rintro w161 HB2 k161 z161
   have:=k161.size
   try simp only [zS,Nat.zero_add,Nat.reduceAdd,List.drop_nil] at HB2
   refine ac (bE (U ?_))
   replace E:=E.step k161 bi
   replace HS1:=HS1.keep k161 aC
   replace HB3:=HB3.keep k161 aH
   replace HF236:=HF236.keep k161 eU
   replace HR2:=HR2.keep k161 fB (by intro i hi he;have hi0:=hi;have hi:=hi;have he:=he;(try dsimp only [aP] at hi he);first | exact he.elim | omega | (have:=hF i hi0;omega))
   replace HGF:=HGF.keep k161 aC
   replace HGc:=HGc.keep k161 aC
   by_cases hz:l2=[]
   ·
    by_cases hm:eh cm=true
    ·
     refine V (O zd (aa (bK Z) (ah (av zk (ci Z) (ae.mono (dK (n:=0) HR2 (if_pos hz)) ?_)))))
     rintro _ w162 ⟨rfl,e162⟩
     have:=e162.size
     refine aa (aG.as (b:=true) (aJ Z Z) zq) ?_
     replace HB2:=HB2.ext e162
     replace HB3:=HB3.ext e162
     refine aa (bH Z) (dE Z Z (bx.of_v (ap zk Z (by first | exact HB3.pv | exact HB2.pv | assumption) Z) ?_))
     replace HGc:=HGc.ext e162
     refine dE Z Z (av zk (aZ Z) (ae.mono (dX (b:=true) HGc hm) ?_))
     rintro _ w163 ⟨rfl,e163⟩
     have:=e163.size
     refine aa (dn Z Z) ?_
     refine ah (av zk (cE Z) (ae.mono (gC (by rfl)) ?_))
     rintro _ w164 ⟨rfl,e164⟩
     have:=e164.size
     replace HB2:=(HB2.ext e163).ext e164
     replace HB3:=(HB3.ext e163).ext e164
     refine ac (U (V (O zd (aa (ap zk Z (by first | exact HB3.pv | exact HB2.pv | assumption) Z) ?_))))
     refine ah (aq (n:=20) Z Z (aZ Z) zk Z cT HB2 bV ?_)
     rintro w165 HB2 k165 z165
     have:=k165.size
     try simp only [zS,Nat.zero_add,Nat.reduceAdd,List.drop_nil] at HB2
     replace HB3:=HB3.keep k165 aH
     refine ah (aR Z Z (bB Z) Z zk HB3 bV ?_)
     rintro w166 HB3 k166 z166
     have:=k166.size
     try simp only [zS,Nat.zero_add,Nat.reduceAdd,List.drop_nil] at HB3
     refine ac (U (aw ?_))
     replace E:=((((E.trans e162.keep).trans e163.keep).trans e164.keep).step k165 bi).step k166 bi
     replace HGF:=((((HGF.ext e162).ext e163).ext e164).keep k165 aC).keep k166 aC
     replace HB2:=HB2.keep k166 aH
     exact eW (by rfl) (by rfl) HB2 (by rfl) HB3 (HGF.mono fun i _ h=>by omega) E (by rw [bY,hcm,hz];exact if_pos hm)
    refine V (O zd (aa (bK Z) (ah (av zk (ci Z) (ae.mono (dK (n:=0) HR2 (if_pos hz)) ?_)))))
    rintro _ w167 ⟨rfl,e167⟩
    have:=e167.size
    refine aa (aG.as (b:=true) (aJ Z Z) zq) ?_
    replace HB2:=HB2.ext e167
    replace HB3:=HB3.ext e167
    refine aa (bH Z) (dE Z Z (bx.of_v (ap zk Z (by first | exact HB3.pv | exact HB2.pv | assumption) Z) ?_))
    replace HGc:=HGc.ext e167
    refine dE Z Z (av zk (aZ Z) (ae.mono (dX (b:=false) HGc (by simpa using hm)) ?_))
    rintro _ w168 ⟨rfl,e168⟩
    have:=e168.size
    refine aa (dn Z Z) ?_
    refine cj (cJ zk (cE Z) (bt.mono (dW (by rfl)) ?_))
    rintro ch w237 ⟨hch,e237⟩
    have:=e237.size
    refine bC ?_
    subst hch
    replace E:=((E.trans e167.keep).trans e168.keep).trans e237.keep
    replace HB2:=(HB2.ext e168).ext e237
    replace HB3:=(HB3.ext e168).ext e237
    exact bW (by rfl) (by rfl) HB2 (by rfl) HB3 zo zo zo E (by rw [bY,hcm,hz];exact if_neg hm)
   refine V (O zd (aa (bK Z) (ah (av zk (ci Z) (ae.mono (dK (n:=4) HR2 (if_neg hz)) ?_)))))
   rintro _ w169 ⟨rfl,e169⟩
   have:=e169.size
   refine aa (aG.as (b:=false) (aJ Z Z) zq) ?_
   refine aa (bH Z) (dz (u:=.bool false) Z Z Z ?_)
   refine dz (u:=.bool false) Z Z Z ?_
   refine aa (fG Z) ?_
   refine cj (cJ zk (cE Z) (bt.mono (dW (by rfl)) ?_))
   rintro ch w238 ⟨hch,e238⟩
   have:=e238.size
   refine bC ?_
   subst hch
   have hnn:bY l=none:=dV hcm hz
   replace E:=(E.trans e169.keep).trans e238.keep
   replace HB2:=(HB2.ext e169).ext e238
   replace HB3:=(HB3.ext e169).ext e238
   exact bW (by rfl) (by rfl) HB2 (by rfl) HB3 zo zo zo E hnn
  rw [h6] at hx;cases hx
 refine O zd (aa (aJ Z Z) ?_)
 refine aa (dl Z) (ac (U (am Z Z (fun h7=>?_) (fun h7=>?_))))
 ·
  obtain rfl:k=7:=by have:=bl h7;omega
  by_cases g1:dU 24 l1=none
  ·
   refine O zd (aa (bK Z) (cj (ei zk (ci Z) (bB Z) (bt.mono (iT (most:=((24:Nat):Int)) HR1 hF zo zo zo g1) ?_))))
   rintro ch w239 ⟨hch,k239⟩
   have:=k239.size
   refine gz ?_
   refine bC ?_
   subst hch
   replace E:=E.step k239 bi
   replace HB2:=HB2.keep k239 aH
   replace HB3:=HB3.keep k239 aH
   exact bW (by rfl) (by rfl) HB2 (by rfl) HB3 zo zo zo E (by simp [bY,dt,h0,g1])
  obtain ⟨⟨key,l2⟩,g1⟩:=Option.ne_none_iff_exists'.1 g1
  have bg1:=cW g1
  refine O zd (aa (bK Z) (ah (aW zk (ci Z) (bB Z) (ae.mono (iU (most:=((24:Nat):Int)) HR1 hF zo zo zo g1) ?_))))
  rintro _ w240 ⟨⟨a240,c240,rfl,HF240⟩,HR2,k240⟩
  have:=k240.size
  have HGF:aY ga w240 (fun i=>n4≤i) (.agg #[.int .i64 7,.int .i64 0,.int .i64 0,.int .i64 0,.slice none 0 0,.slice none 0 0,.slice none 0 0,.slice none 0 0,.bool false,.int .i64 0,.int .i64 0,.slice none 0 0,.slice none 0 0,.bool false,.int .i64 0,.int .i64 0,.slice none 0 0,.slice none 0 0,.slice a240 key.length c240,.int .i64 0]) _:=aY.mkCmF ⟨by decide,by decide⟩ fP fL (bs.nil _ _ _) (fO.nil _ _) (HF240.mono fun i _ h=>by omega) ⟨by decide,by decide⟩
  replace E:=E.step k240 bi
  replace HS1:=HS1.keep k240 aC
  replace HB2:=HB2.keep k240 aH
  replace HB3:=HB3.keep k240 aH
  obtain ⟨cm,hcmq⟩:∃ c:iq,dt l.length l=some (c,l2)∧aY ga w240 (fun i=>n4≤i) (.agg #[.int .i64 7,.int .i64 0,.int .i64 0,.int .i64 0,.slice none 0 0,.slice none 0 0,.slice none 0 0,.slice none 0 0,.bool false,.int .i64 0,.int .i64 0,.slice none 0 0,.slice none 0 0,.bool false,.int .i64 0,.int .i64 0,.slice none 0 0,.slice none 0 0,.slice a240 key.length c240,.int .i64 0]) c:=⟨_,by simp [dt,h0,g1],HGF⟩
  obtain ⟨hcm,HGF⟩:=hcmq
  have HGc:=HGF.imp gE
  refine aa (aA 18 28 Z) (ah (aR Z Z (bI Z) Z zk HB2 bV ?_))
  rintro w170 HB2 k170 z170
  have:=k170.size
  try simp only [zS,Nat.zero_add,Nat.reduceAdd,List.drop_nil] at HB2
  refine ac (bE (U ?_))
  replace E:=E.step k170 bi
  replace HS1:=HS1.keep k170 aC
  replace HB3:=HB3.keep k170 aH
  replace HF240:=HF240.keep k170 eU
  replace HR2:=HR2.keep k170 fB (by intro i hi he;have hi0:=hi;have hi:=hi;have he:=he;(try dsimp only [aP] at hi he);first | exact he.elim | omega | (have:=hF i hi0;omega))
  replace HGF:=HGF.keep k170 aC
  replace HGc:=HGc.keep k170 aC
  by_cases hz:l2=[]
  ·
   by_cases hm:eh cm=true
   ·
    refine V (O zd (aa (bK Z) (ah (av zk (ci Z) (ae.mono (dK (n:=0) HR2 (if_pos hz)) ?_)))))
    rintro _ w171 ⟨rfl,e171⟩
    have:=e171.size
    refine aa (aG.as (b:=true) (aJ Z Z) zq) ?_
    replace HB2:=HB2.ext e171
    replace HB3:=HB3.ext e171
    refine aa (bH Z) (dE Z Z (bx.of_v (ap zk Z (by first | exact HB3.pv | exact HB2.pv | assumption) Z) ?_))
    replace HGc:=HGc.ext e171
    refine dE Z Z (av zk (aZ Z) (ae.mono (dX (b:=true) HGc hm) ?_))
    rintro _ w172 ⟨rfl,e172⟩
    have:=e172.size
    refine aa (dn Z Z) ?_
    refine ah (av zk (cE Z) (ae.mono (gC (by rfl)) ?_))
    rintro _ w173 ⟨rfl,e173⟩
    have:=e173.size
    replace HB2:=(HB2.ext e172).ext e173
    replace HB3:=(HB3.ext e172).ext e173
    refine ac (U (V (O zd (aa (ap zk Z (by first | exact HB3.pv | exact HB2.pv | assumption) Z) ?_))))
    refine ah (aq (n:=20) Z Z (aZ Z) zk Z cT HB2 bV ?_)
    rintro w174 HB2 k174 z174
    have:=k174.size
    try simp only [zS,Nat.zero_add,Nat.reduceAdd,List.drop_nil] at HB2
    replace HB3:=HB3.keep k174 aH
    refine ah (aR Z Z (bB Z) Z zk HB3 bV ?_)
    rintro w175 HB3 k175 z175
    have:=k175.size
    try simp only [zS,Nat.zero_add,Nat.reduceAdd,List.drop_nil] at HB3
    refine ac (U (aw ?_))
    replace E:=((((E.trans e171.keep).trans e172.keep).trans e173.keep).step k174 bi).step k175 bi
    replace HGF:=((((HGF.ext e171).ext e172).ext e173).keep k174 aC).keep k175 aC
    replace HB2:=HB2.keep k175 aH
    exact eW (by rfl) (by rfl) HB2 (by rfl) HB3 (HGF.mono fun i _ h=>by omega) E (by rw [bY,hcm,hz];exact if_pos hm)
   refine V (O zd (aa (bK Z) (ah (av zk (ci Z) (ae.mono (dK (n:=0) HR2 (if_pos hz)) ?_)))))
   rintro _ w176 ⟨rfl,e176⟩
   have:=e176.size
   refine aa (aG.as (b:=true) (aJ Z Z) zq) ?_
   replace HB2:=HB2.ext e176
   replace HB3:=HB3.ext e176
   refine aa (bH Z) (dE Z Z (bx.of_v (ap zk Z (by first | exact HB3.pv | exact HB2.pv | assumption) Z) ?_))
   replace HGc:=HGc.ext e176
   refine dE Z Z (av zk (aZ Z) (ae.mono (dX (b:=false) HGc (by simpa using hm)) ?_))
   rintro _ w177 ⟨rfl,e177⟩
   have:=e177.size
   refine aa (dn Z Z) ?_
   refine cj (cJ zk (cE Z) (bt.mono (dW (by rfl)) ?_))
   rintro ch w241 ⟨hch,e241⟩
   have:=e241.size
   refine bC ?_
   subst hch
   replace E:=((E.trans e176.keep).trans e177.keep).trans e241.keep
   replace HB2:=(HB2.ext e177).ext e241
   replace HB3:=(HB3.ext e177).ext e241
   exact bW (by rfl) (by rfl) HB2 (by rfl) HB3 zo zo zo E (by rw [bY,hcm,hz];exact if_neg hm)
  refine V (O zd (aa (bK Z) (ah (av zk (ci Z) (ae.mono (dK (n:=4) HR2 (if_neg hz)) ?_)))))
  rintro _ w178 ⟨rfl,e178⟩
  have:=e178.size
  refine aa (aG.as (b:=false) (aJ Z Z) zq) ?_
  refine aa (bH Z) (dz (u:=.bool false) Z Z Z ?_)
  refine dz (u:=.bool false) Z Z Z ?_
  refine aa (fG Z) ?_
  refine cj (cJ zk (cE Z) (bt.mono (dW (by rfl)) ?_))
  rintro ch w242 ⟨hch,e242⟩
  have:=e242.size
  refine bC ?_
  subst hch
  have hnn:bY l=none:=dV hcm hz
  replace E:=(E.trans e178.keep).trans e242.keep
  replace HB2:=(HB2.ext e178).ext e242
  replace HB3:=(HB3.ext e178).ext e242
  exact bW (by rfl) (by rfl) HB2 (by rfl) HB3 zo zo zo E hnn
 refine V (O zd (aa (aJ Z Z) ?_))
 refine aa (dl Z) (ac (U (am Z Z (fun h8=>?_) (fun h8=>?_))))
 ·
  obtain rfl:k=8:=by have:=bl h8;omega
  by_cases g1:dU 24 l1=none
  ·
   refine V (O zd (aa (bK Z) (cj (ei zk (ci Z) (bB Z) (bt.mono (iT (most:=((24:Nat):Int)) HR1 hF zo zo zo g1) ?_)))))
   rintro ch w243 ⟨hch,k243⟩
   have:=k243.size
   refine bC ?_
   refine gz ?_
   refine bC ?_
   subst hch
   replace E:=E.step k243 bi
   replace HB2:=HB2.keep k243 aH
   replace HB3:=HB3.keep k243 aH
   exact bW (by rfl) (by rfl) HB2 (by rfl) HB3 zo zo zo E (by simp [bY,dt,h0,g1])
  refine V ?_
  obtain ⟨⟨key,l2⟩,g1⟩:=Option.ne_none_iff_exists'.1 g1
  have bg1:=cW g1
  refine O zd (aa (bK Z) (ah (aW zk (ci Z) (bB Z) (ae.mono (iU (most:=((24:Nat):Int)) HR1 hF zo zo zo g1) ?_))))
  rintro _ w244 ⟨⟨a244,c244,rfl,HF244⟩,HR2,k244⟩
  have:=k244.size
  replace HB2:=HB2.keep k244 aH
  refine aa (aA 18 28 Z) (ah (aR Z Z (bI Z) Z zk HB2 bV ?_))
  rintro w179 HB2 k179 z179
  have:=k179.size
  try simp only [zS,Nat.zero_add,Nat.reduceAdd,List.drop_nil] at HB2
  refine ac (U ?_)
  replace E:=(E.step k244 bi).step k179 bi
  replace HS1:=(HS1.keep k244 aC).keep k179 aC
  replace HB3:=(HB3.keep k244 aH).keep k179 aH
  replace HF244:=HF244.keep k179 eU
  replace HR2:=HR2.keep k179 fB (by intro i hi he;have hi0:=hi;have hi:=hi;have he:=he;(try dsimp only [aP] at hi he);first | exact he.elim | omega | (have:=hF i hi0;omega))
  by_cases g2:eF 5 l2=none
  ·
   refine O zd (aa (bK Z) (cj (ei zk (ci Z) (bB Z) (bt.mono (gk (most:=5) HR2 hnF zq zq g2) ?_))))
   rintro ch w245 ⟨hch,k245⟩
   have:=k245.size
   refine gz ?_
   refine bC ?_
   subst hch
   replace E:=E.step k245 bi
   replace HB2:=HB2.keep k245 aH
   replace HB3:=HB3.keep k245 aH
   exact bW (by rfl) (by rfl) HB2 (by rfl) HB3 zo zo zo E (by simp [bY,dt,h0,g1,g2])
  obtain ⟨⟨g,l3⟩,g2⟩:=Option.ne_none_iff_exists'.1 g2
  have bg2:=dy g2
  refine O zd (aa (bK Z) (ah (aW zk (ci Z) (bB Z) (ae.mono (gl (most:=5) HR2 hnF zq zq g2) ?_))))
  rintro _ w246 ⟨rfl,HR3,k246⟩
  have:=k246.size
  replace HF244:=HF244.keep k246 eU
  have HGF:aY ga w246 (fun i=>n4≤i) (.agg #[.int .i64 8,.int .i64 0,.int .i64 0,.int .i64 0,.slice none 0 0,.slice none 0 0,.slice none 0 0,.slice none 0 0,.bool false,.int .i64 0,.int .i64 0,.slice none 0 0,.slice none 0 0,.bool false,.int .i64 0,.int .i64 0,.slice none 0 0,.slice none 0 0,.slice a244 key.length c244,.int .i64 g]) _:=aY.mkCmF ⟨by decide,by decide⟩ fP fL (bs.nil _ _ _) (fO.nil _ _) (HF244.mono fun i _ h=>by omega) ⟨by omega,by omega⟩
  replace E:=E.step k246 bi
  replace HS1:=HS1.keep k246 aC
  replace HB2:=HB2.keep k246 aH
  replace HB3:=HB3.keep k246 aH
  obtain ⟨cm,hcmq⟩:∃ c:iq,dt l.length l=some (c,l3)∧aY ga w246 (fun i=>n4≤i) (.agg #[.int .i64 8,.int .i64 0,.int .i64 0,.int .i64 0,.slice none 0 0,.slice none 0 0,.slice none 0 0,.slice none 0 0,.bool false,.int .i64 0,.int .i64 0,.slice none 0 0,.slice none 0 0,.bool false,.int .i64 0,.int .i64 0,.slice none 0 0,.slice none 0 0,.slice a244 key.length c244,.int .i64 g]) c:=⟨_,by simp [dt,h0,g1,g2],HGF⟩
  obtain ⟨hcm,HGF⟩:=hcmq
  have HGc:=HGF.imp gE
  refine aa (aA 19 3 Z) (ah (aR Z Z (bB Z) Z zk HB2 bV ?_))
  rintro w180 HB2 k180 z180
  have:=k180.size
  try simp only [zS,Nat.zero_add,Nat.reduceAdd,List.drop_nil] at HB2
  refine ac (bE (U ?_))
  replace E:=E.step k180 bi
  replace HS1:=HS1.keep k180 aC
  replace HB3:=HB3.keep k180 aH
  replace HF244:=HF244.keep k180 eU
  replace HR3:=HR3.keep k180 fB (by intro i hi he;have hi0:=hi;have hi:=hi;have he:=he;(try dsimp only [aP] at hi he);first | exact he.elim | omega | (have:=hF i hi0;omega))
  replace HGF:=HGF.keep k180 aC
  replace HGc:=HGc.keep k180 aC
  by_cases hz:l3=[]
  ·
   by_cases hm:eh cm=true
   ·
    refine V (O zd (aa (bK Z) (ah (av zk (ci Z) (ae.mono (dK (n:=0) HR3 (if_pos hz)) ?_)))))
    rintro _ w181 ⟨rfl,e181⟩
    have:=e181.size
    refine aa (aG.as (b:=true) (aJ Z Z) zq) ?_
    replace HB2:=HB2.ext e181
    replace HB3:=HB3.ext e181
    refine aa (bH Z) (dE Z Z (bx.of_v (ap zk Z (by first | exact HB3.pv | exact HB2.pv | assumption) Z) ?_))
    replace HGc:=HGc.ext e181
    refine dE Z Z (av zk (aZ Z) (ae.mono (dX (b:=true) HGc hm) ?_))
    rintro _ w182 ⟨rfl,e182⟩
    have:=e182.size
    refine aa (dn Z Z) ?_
    refine ah (av zk (cE Z) (ae.mono (gC (by rfl)) ?_))
    rintro _ w183 ⟨rfl,e183⟩
    have:=e183.size
    replace HB2:=(HB2.ext e182).ext e183
    replace HB3:=(HB3.ext e182).ext e183
    refine ac (U (V (O zd (aa (ap zk Z (by first | exact HB3.pv | exact HB2.pv | assumption) Z) ?_))))
    refine ah (aq (n:=20) Z Z (aZ Z) zk Z cT HB2 bV ?_)
    rintro w184 HB2 k184 z184
    have:=k184.size
    try simp only [zS,Nat.zero_add,Nat.reduceAdd,List.drop_nil] at HB2
    replace HB3:=HB3.keep k184 aH
    refine ah (aR Z Z (bB Z) Z zk HB3 bV ?_)
    rintro w185 HB3 k185 z185
    have:=k185.size
    try simp only [zS,Nat.zero_add,Nat.reduceAdd,List.drop_nil] at HB3
    refine ac (U (aw ?_))
    replace E:=((((E.trans e181.keep).trans e182.keep).trans e183.keep).step k184 bi).step k185 bi
    replace HGF:=((((HGF.ext e181).ext e182).ext e183).keep k184 aC).keep k185 aC
    replace HB2:=HB2.keep k185 aH
    exact eW (by rfl) (by rfl) HB2 (by rfl) HB3 (HGF.mono fun i _ h=>by omega) E (by rw [bY,hcm,hz];exact if_pos hm)
   refine V (O zd (aa (bK Z) (ah (av zk (ci Z) (ae.mono (dK (n:=0) HR3 (if_pos hz)) ?_)))))
   rintro _ w186 ⟨rfl,e186⟩
   have:=e186.size
   refine aa (aG.as (b:=true) (aJ Z Z) zq) ?_
   replace HB2:=HB2.ext e186
   replace HB3:=HB3.ext e186
   refine aa (bH Z) (dE Z Z (bx.of_v (ap zk Z (by first | exact HB3.pv | exact HB2.pv | assumption) Z) ?_))
   replace HGc:=HGc.ext e186
   refine dE Z Z (av zk (aZ Z) (ae.mono (dX (b:=false) HGc (by simpa using hm)) ?_))
   rintro _ w187 ⟨rfl,e187⟩
   have:=e187.size
   refine aa (dn Z Z) ?_
   refine cj (cJ zk (cE Z) (bt.mono (dW (by rfl)) ?_))
   rintro ch w247 ⟨hch,e247⟩
   have:=e247.size
   refine bC ?_
   subst hch
   replace E:=((E.trans e186.keep).trans e187.keep).trans e247.keep
   replace HB2:=(HB2.ext e187).ext e247
   replace HB3:=(HB3.ext e187).ext e247
   exact bW (by rfl) (by rfl) HB2 (by rfl) HB3 zo zo zo E (by rw [bY,hcm,hz];exact if_neg hm)
  refine V (O zd (aa (bK Z) (ah (av zk (ci Z) (ae.mono (dK (n:=4) HR3 (if_neg hz)) ?_)))))
  rintro _ w188 ⟨rfl,e188⟩
  have:=e188.size
  refine aa (aG.as (b:=false) (aJ Z Z) zq) ?_
  refine aa (bH Z) (dz (u:=.bool false) Z Z Z ?_)
  refine dz (u:=.bool false) Z Z Z ?_
  refine aa (fG Z) ?_
  refine cj (cJ zk (cE Z) (bt.mono (dW (by rfl)) ?_))
  rintro ch w248 ⟨hch,e248⟩
  have:=e248.size
  refine bC ?_
  subst hch
  have hnn:bY l=none:=dV hcm hz
  replace E:=(E.trans e188.keep).trans e248.keep
  replace HB2:=(HB2.ext e188).ext e248
  replace HB3:=(HB3.ext e188).ext e248
  exact bW (by rfl) (by rfl) HB2 (by rfl) HB3 zo zo zo E hnn
 have hkk:¬ k=2∧¬ (k=3∨k=5∨k=9∨k=10)∧¬ k=4∧¬ (k=6∨k=7)∧¬ k=8:=by have:=bf h2;have:=bf h3;have:=bf h5;have:=bf h9;have:=bf h10;have:=bf h4;have:=bf h6;have:=bf h7;have:=bf h8;omega
 have HGF:aY ga w101 (fun i=>n4≤i) (.agg #[.int .i64 k,.int .i64 0,.int .i64 0,.int .i64 0,.slice none 0 0,.slice none 0 0,.slice none 0 0,.slice none 0 0,.bool false,.int .i64 0,.int .i64 0,.slice none 0 0,.slice none 0 0,.bool false,.int .i64 0,.int .i64 0,.slice none 0 0,.slice none 0 0,.slice none 0 0,.int .i64 0]) _:=aY.mkCmF ⟨by omega,by omega⟩ fP fL (bs.nil _ _ _) (fO.nil _ _) (fO.nil _ _) ⟨by decide,by decide⟩
 obtain ⟨cm,hcmq⟩:∃ c:iq,dt l.length l=some (c,l1)∧aY ga w101 (fun i=>n4≤i) (.agg #[.int .i64 k,.int .i64 0,.int .i64 0,.int .i64 0,.slice none 0 0,.slice none 0 0,.slice none 0 0,.slice none 0 0,.bool false,.int .i64 0,.int .i64 0,.slice none 0 0,.slice none 0 0,.bool false,.int .i64 0,.int .i64 0,.slice none 0 0,.slice none 0 0,.slice none 0 0,.int .i64 0]) c:=⟨_,by simp [dt,h0,hkk.1,hkk.2.1,hkk.2.2.1,hkk.2.2.2.1,hkk.2.2.2.2],HGF⟩
 obtain ⟨hcm,HGF⟩:=hcmq
 have HGc:=HGF.imp gE
 by_cases hz:l1=[]
 ·
  by_cases hm:eh cm=true
  ·
   refine ar (bE (U (V (O zd (aa (bK Z) (ah (av zk (ci Z) (ae.mono (dK (n:=0) HR1 (if_pos hz)) ?_))))))))
   rintro _ w189 ⟨rfl,e189⟩
   have:=e189.size
   refine aa (aG.as (b:=true) (aJ Z Z) zq) ?_
   replace HB2:=HB2.ext e189
   replace HB3:=HB3.ext e189
   refine aa (bH Z) (dE Z Z (bx.of_v (ap zk Z (by first | exact HB3.pv | exact HB2.pv | assumption) Z) ?_))
   replace HGc:=HGc.ext e189
   refine dE Z Z (av zk (aZ Z) (ae.mono (dX (b:=true) HGc hm) ?_))
   rintro _ w190 ⟨rfl,e190⟩
   have:=e190.size
   refine aa (dn Z Z) ?_
   refine ah (av zk (cE Z) (ae.mono (gC (by rfl)) ?_))
   rintro _ w191 ⟨rfl,e191⟩
   have:=e191.size
   replace HB2:=(HB2.ext e190).ext e191
   replace HB3:=(HB3.ext e190).ext e191
   refine ac (U (V (O zd (aa (ap zk Z (by first | exact HB3.pv | exact HB2.pv | assumption) Z) ?_))))
   refine ah (aq (n:=20) Z Z (aZ Z) zk Z cT HB2 bV ?_)
   rintro w192 HB2 k192 z192
   have:=k192.size
   try simp only [zS,Nat.zero_add,Nat.reduceAdd,List.drop_nil] at HB2
   replace HB3:=HB3.keep k192 aH
   refine ah (aR Z Z (bB Z) Z zk HB3 bV ?_)
   rintro w193 HB3 k193 z193
   have:=k193.size
   try simp only [zS,Nat.zero_add,Nat.reduceAdd,List.drop_nil] at HB3
   refine ac (U (aw ?_))
   replace E:=((((E.trans e189.keep).trans e190.keep).trans e191.keep).step k192 bi).step k193 bi
   replace HGF:=((((HGF.ext e189).ext e190).ext e191).keep k192 aC).keep k193 aC
   replace HB2:=HB2.keep k193 aH
   exact eW (by rfl) (by rfl) HB2 (by rfl) HB3 (HGF.mono fun i _ h=>by omega) E (by rw [bY,hcm,hz];exact if_pos hm)
  refine ar (bE (U (V (O zd (aa (bK Z) (ah (av zk (ci Z) (ae.mono (dK (n:=0) HR1 (if_pos hz)) ?_))))))))
  rintro _ w194 ⟨rfl,e194⟩
  have:=e194.size
  refine aa (aG.as (b:=true) (aJ Z Z) zq) ?_
  replace HB2:=HB2.ext e194
  replace HB3:=HB3.ext e194
  refine aa (bH Z) (dE Z Z (bx.of_v (ap zk Z (by first | exact HB3.pv | exact HB2.pv | assumption) Z) ?_))
  replace HGc:=HGc.ext e194
  refine dE Z Z (av zk (aZ Z) (ae.mono (dX (b:=false) HGc (by simpa using hm)) ?_))
  rintro _ w195 ⟨rfl,e195⟩
  have:=e195.size
  refine aa (dn Z Z) ?_
  refine cj (cJ zk (cE Z) (bt.mono (dW (by rfl)) ?_))
  rintro ch w249 ⟨hch,e249⟩
  have:=e249.size
  refine bC ?_
  subst hch
  replace E:=((E.trans e194.keep).trans e195.keep).trans e249.keep
  replace HB2:=(HB2.ext e195).ext e249
  replace HB3:=(HB3.ext e195).ext e249
  exact bW (by rfl) (by rfl) HB2 (by rfl) HB3 zo zo zo E (by rw [bY,hcm,hz];exact if_neg hm)
 refine ar (bE (U (V (O zd (aa (bK Z) (ah (av zk (ci Z) (ae.mono (dK (n:=4) HR1 (if_neg hz)) ?_))))))))
 rintro _ w196 ⟨rfl,e196⟩
 have:=e196.size
 refine aa (aG.as (b:=false) (aJ Z Z) zq) ?_
 refine aa (bH Z) (dz (u:=.bool false) Z Z Z ?_)
 refine dz (u:=.bool false) Z Z Z ?_
 refine aa (fG Z) ?_
 refine cj (cJ zk (cE Z) (bt.mono (dW (by rfl)) ?_))
 rintro ch w250 ⟨hch,e250⟩
 have:=e250.size
 refine bC ?_
 subst hch
 have hnn:bY l=none:=dV hcm hz
 replace E:=(E.trans e196.keep).trans e250.keep
 replace HB2:=(HB2.ext e196).ext e250
 replace HB3:=(HB3.ext e196).ext e250
 exact bW (by rfl) (by rfl) HB2 (by rfl) HB3 zo zo zo E hnn
end Go.Proofs.YteehplloacefmaaGreat
