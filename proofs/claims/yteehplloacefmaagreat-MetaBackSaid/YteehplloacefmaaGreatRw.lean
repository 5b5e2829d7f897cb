/- Steps and lemmas for the walks. -/
import Derived.Test.YteehplloacefmaaGreatGs
set_option linter.unusedVariables false
set_option linter.unusedSimpArgs false
set_option maxRecDepth 100000
namespace Go.Proofs.YteehplloacefmaaGreat
open Go.Vc
theorem uT {α:Type} {t:Ty α} {w:World} {F:Nat→Prop} {a:Option Addr} {n c:Nat} {xs:List α} (h:bs t w F (.slice a n c) xs):xs.length≤c:=by
  obtain ⟨a',c',hv,h1,_⟩:=h
  cases hv;exact h1
theorem uB {w:World} {F G:Nat→Prop} {v kv:Value} {e:Int} {rs:List cO} {k:List UInt8} (HG1:aY li w F v (e,rs)) (HS2:Bv w G kv k):ae Tryz.prog 41 #[v,kv] w (fun o w'=>(∃ x,o=.tuple #[x,.int .i64 (gv (e,rs) k).2]∧aY li w' (fun b=>w.heap.size≤b) x (gv (e,rs) k).1)∧aX w w'):=by
 obtain ⟨a,c,rfl,HSr,he⟩:=HG1.mp
 obtain ⟨a3,c3,rfl⟩:=HS2.shape
 simp only at HSr he
 have hrc:=uT HSr
 refine aL 57 Tryz.func41 Z Z (by simp) ?_
 refine V ?_
 have E:=ao.refl (K:=aP) w
 replace HG1:=HG1.all
 replace HS2:=HS2.all
 replace HSr:=HSr.all
 refine O zd (ah (aS (aZ Z) ?_))
 rintro b2 w2 zb2 HB2 e2 z2
 have:=e2.size
 try simp only [Value.cells] at HB2
 refine ah (aD (z:=(.agg #[.int .i64 0,.slice none 0 0])) (by unfold aE;kernel_rfl) ?_)
 rintro b4 w4 zb4 HB4 e4 z4
 have:=e4.size
 try simp only [Value.cells] at HB4
 replace HB2:=HB2.ext e4
 refine aa (ad Z) (ac (U (V (aO (V (O zd (aa (ap zk Z (by first | exact HB4.pv | exact HB2.pv | assumption) Z) ?_)))))))
 replace HG1:=(HG1.ext e2).ext e4
 refine ah (av zk (aZ Z) (ae.mono (mL HG1) ?_))
 rintro _ w101 ⟨rfl,e101⟩
 have:=e101.size
 refine aa (cg Z) ?_
 replace HS2:=((HS2.ext e2).ext e4).ext e101
 refine aa (bH Z) (aj Z Z (fun hG=>bP Z) (cI Z Z (fun hG=>av zk (gd hG Z) (uU HS2)) ?_))
 rintro w102 e102
 have:=e102.size
 refine aj Z Z (fun hG=>cg (gd hG Z)) ?_
 refine aa (bF Z Z) ?_
 replace E:=(((E.trans e2.keep).trans e4.keep).trans e101.keep).trans e102.keep
 replace HSr:=(((HSr.ext e2).ext e4).ext e101).ext e102
 replace HG1:=(HG1.ext e101).ext e102
 replace HB2:=(HB2.ext e101).ext e102
 replace HB4:=(HB4.ext e101).ext e102
 replace HS2:=HS2.ext e102
 refine aa (dl Z) (ac (U (am Z Z (fun hc=>?_) (fun hc=>?_))))
 ·
  refine V (O zd (aa (aV (pl:=[(0,1),(1,1)]) (z:=.agg #[.int .i64 0,.slice none 0 0]) (zl:=[.int .i64 0,.slice none 0 0]) zk (by unfold aE;kernel_rfl) Z Z (cells:=[_,_]) Z) ?_))
  refine ah (aq (n:=2) Z Z (aZ Z) zk Z cT HB4 bV ?_)
  rintro w103 HB4 k103 z103
  have:=k103.size
  try simp only [zS,Nat.zero_add,Nat.reduceAdd,List.drop_nil] at HB4
  refine aa (ad Z) (ac (U (aw (bz (ay (bL (n:=2) Z zq zq Z zk HB4.pv Z (bB Z) ?_))))))
  have h:(cY (e,rs) && ep k)=false:=by revert hc;rw [ep];cases cY (e,rs) <;> cases decide (1≤k.length) <;> cases decide (k.length≤24) <;> simp
  rw [gv,if_pos h]
  replace E:=E.step k103 bi
  exact ⟨⟨_,rfl,aY.mkMp (bs.nil _ _ _) zo⟩,E⟩
 have hmk:(cY (e,rs) && ep k)=true:=by revert hc;rw [ep];cases cY (e,rs) <;> cases decide (1≤k.length) <;> cases decide (k.length≤24) <;> simp
 have hm:cY (e,rs)=true:=by revert hmk;cases cY (e,rs) <;> simp
 have hkk:ep k=true:=by revert hmk;cases cY (e,rs) <;> simp
 have hnf:¬ (cY (e,rs) && ep k)=false:=by rw [hmk];simp
 have h24:k.length≤24:=by simp only [ep,Bool.and_eq_true,decide_eq_true_eq] at hkk;exact hkk.2
 refine V (O zd (aa (ap zk Z (by first | exact HB4.pv | exact HB2.pv | assumption) Z) ?_))
 refine aa (bP Z) (ah (aW zk (aZ Z) (bI Z) (ae.mono (mE HG1 HS2) ?_)))
 rintro _ w104 ⟨rfl,e104⟩
 have:=e104.size
 refine aa (fc Z Z) ?_
 replace E:=E.trans e104.keep
 replace HG1:=HG1.ext e104
 replace HS2:=HS2.ext e104
 replace HSr:=HSr.ext e104
 replace HB2:=HB2.ext e104
 replace HB4:=HB4.ext e104
 refine aa (dl Z) (ac (U (am Z Z (fun hb=>?_) (fun hb=>?_))))
 ·
  refine V (O zd (aa (aV (pl:=[(0,1),(1,1)]) (z:=.agg #[.int .i64 0,.slice none 0 0]) (zl:=[.int .i64 0,.slice none 0 0]) zk (by unfold aE;kernel_rfl) Z Z (cells:=[_,_]) Z) ?_))
  refine ah (aq (n:=2) Z Z (aZ Z) zk Z cT HB4 bV ?_)
  rintro w105 HB4 k105 z105
  have:=k105.size
  try simp only [zS,Nat.zero_add,Nat.reduceAdd,List.drop_nil] at HB4
  refine aa (ad Z) (ac (U (aw (bz (ay (bL (n:=2) Z zq zq Z zk HB4.pv Z (bB Z) ?_))))))
  replace E:=E.step k105 bi
  replace HG1:=HG1.keep k105 aC
  replace HS2:=HS2.keep k105 aC
  replace HSr:=HSr.keep k105 aC
  replace HB2:=HB2.keep k105 aH
  have h:(dZ (e,rs) (ge k)).isSome=true:=by
   cases hf:dZ (e,rs) (ge k) with
   | none=>rw [hf] at hb;simp [dP] at hb
   | some i=>rfl
  rw [gv,if_neg hnf,if_pos h]
  exact ⟨⟨_,rfl,aY.mkMp (bs.nil _ _ _) zo⟩,E⟩
 have hnb:¬ (dZ (e,rs) (ge k)).isSome=true:=by
  cases hf:dZ (e,rs) (ge k) with
  | none=>simp
  | some i=>rw [hf] at hb;simp [dP] at hb
 obtain ⟨i,hi,hlt⟩:=sW hm k
 simp only at hlt
 obtain ⟨hp1,hp2,_,hp4,_,_⟩:=cP hm
 simp only at hp1 hp2 hp4
 have hlens:=eA hm
 simp only at hlens
 obtain ⟨hl1,hl2,hgr⟩:=hlens _ (fX (l:=rs) hlt)
 refine ar (bE (U (V (O zd (aa (ap zk Z (by first | exact HB4.pv | exact HB2.pv | assumption) Z) ?_)))))
 refine aa (bP Z) (ah (aW zk (aZ Z) (bI Z) (ae.mono (tJ HG1 HS2) ?_)))
 rintro _ w5 ⟨⟨x,rfl,HG5⟩,e5⟩
 have:=e5.size
 rw [hi] at HG5 ⊢
 have e1:kb rs (some i)=rs.getD i fV:=rfl
 have hoi:dP (some i)=(i:Int):=rfl
 rw [e1] at HG5
 rw [hoi]
 obtain ⟨r,hr⟩:∃ r,r=rs.getD i fV:=⟨_,rfl⟩
 rw [← hr] at HG5 hl1 hl2 hgr
 replace HG5:=HG5.all
 obtain ⟨a6,c6,a7,c7,rfl,HS6,HS7,hg6⟩:=HG5.rg
 have hspl:gv (e,rs) k=jE e (rs.take i ++ [(r.1,k,true,r.2.2.2),(k,r.2.1,r.2.2.1,r.2.2.2)] ++ rs.drop (i + 1)):=by rw [gv,if_neg hnf,if_neg hnb,hi,hr]
 refine aa (dY Z) (aa (ai (t:=.agg _) Z Z) (aa (ai (t:=.int _ _) Z Z) (ah (aD (z:=(.agg #[.slice none 0 0,.slice none 0 0,.bool false,.int .i64 0])) (by unfold aE;kernel_rfl) ?_))))
 rintro b6 w6 zb6 HB6 e6 z6
 have:=e6.size
 try simp only [Value.cells] at HB6
 refine ah (aq (n:=4) Z Z (aZ Z) zk Z cT HB6 bV ?_)
 rintro w106 HB6 k106 z106
 have:=k106.size
 try simp only [zS,Nat.zero_add,Nat.reduceAdd,List.drop_nil] at HB6
 refine aa (bO Z) (ac (U (V (cN zk ?_))))
 have e107:aX w106 { w106 with drawn:=w106.drawn + 1 }:=ao.drawn _ _
 replace E:=((E.trans e5.keep).trans e6.keep).step k106 bi
 replace HG1:=((HG1.ext e5).ext e6).keep k106 aC
 replace HS2:=((HS2.ext e5).ext e6).keep k106 aC
 replace HSr:=((HSr.ext e5).ext e6).keep k106 aC
 replace HB2:=((HB2.ext e5).ext e6).keep k106 aH
 replace HB4:=((HB4.ext e5).ext e6).keep k106 aH
 replace HG5:=(HG5.ext e6).keep k106 aC
 replace HS6:=(HS6.ext e6).keep k106 aC
 replace HS7:=(HS7.ext e6).keep k106 aC
 generalize hw107:({ w106 with drawn:=w106.drawn + 1 }:World)=w107 at e107 ⊢
 clear hw107
 have:=e107.size
 refine bT 5 Z zd zd zd ?_
 refine eH (fun k=>w107.heap.size≤k) (iP w107.heap.size [⟨2,some 4,53,([.slice none 0 0,.slice none 0 0,.bool false,.int .i64 0]:List Value),([.slice a6 r.1.length c6,.slice a7 r.2.1.length c7,.bool r.2.2.1,.int .i64 r.2.2.2]:List Value)⟩,⟨3,none,53,([.slice none 0 0,.slice none 0 0,.bool false,.int .i64 0]:List Value),([.slice none 0 0,.slice none 0 0,.bool false,.int .i64 0]:List Value)⟩]) zd zd (fun ab done hd=>iP.start (Nat.le_refl _) (fun a ha=>hd a.al (mG (n:=5) Z a ha))) ?_
 replace HB2:=HB2.ext e107
 replace HB4:=HB4.ext e107
 replace HB6:=HB6.ext e107
 refine aI (fun done ab w hR hcl hdk hJ hdn hd=>ap zk Z (by first | exact (HB6.keep hR aH).pv | exact (HB4.keep hR aH).pv | exact (HB2.keep hR aH).pv | assumption) Z) (fun _ _ _ _ j=>j.src (ao.refl _) Z) ?_
 refine aI (fun done ab w hR hcl hdk hJ hdn hd=>ap zk Z (by first | exact (HB6.keep hR aH).pv | exact (HB4.keep hR aH).pv | exact (HB2.keep hR aH).pv | assumption) Z) (fun _ _ _ _ j=>j.src (ao.refl _) Z) ?_
 refine ea (fun done ab w hR hcl hdk hJ hdn hd=>aD (z:=.agg #[.slice none 0 0,.slice none 0 0,.bool false,.int .i64 0]) (by unfold aE;kernel_rfl) fun b w1 hb hB e hz=>⟨aX.keep e,hJ.al (i:=0) Z Z hdk hcl (fun m a hm he=>ej (i:=0) (m:=m) Z Z hm he) (fun a ha=>eP Z ha (List.mem_of_getElem? (i:=0) Z)) (fun s hs=>by cases hs;exact ⟨_,rfl,rfl⟩) hb hB e⟩) ?_
 refine ea (fun done ab w hR hcl hdk hJ hdn hd=>aD (z:=.agg #[.slice none 0 0,.slice none 0 0,.bool false,.int .i64 0]) (by unfold aE;kernel_rfl) fun b w1 hb hB e hz=>⟨aX.keep e,hJ.al (i:=1) Z Z hdk hcl (fun m a hm he=>ej (i:=1) (m:=m) Z Z hm he) (fun a ha=>eP Z ha (List.mem_of_getElem? (i:=1) Z)) (fun s hs=>by cases hs) hb hB e⟩) ?_
 replace E:=E.trans e107.keep
 replace HG1:=HG1.ext e107
 replace HS2:=HS2.ext e107
 replace HSr:=HSr.ext e107
 replace HG5:=HG5.ext e107
 replace HS6:=HS6.ext e107
 replace HS7:=HS7.ext e107
 refine ea (fun done ab w hR hcl hdk hJ hdn hd=>by
   obtain ⟨b,hb,hn,hB⟩:=hJ.at (i:=0) rfl rfl hdk (hdn 2 rfl)
   exact aq (n:=4) (hb:_=Value.pointer (some ⟨b,0,none⟩)) rfl (hd 0 rfl) zk rfl (by first | (simp [cL];done) | (simp only [List.forall_mem_cons,List.cons_append,List.nil_append];repeat' (first | exact rfl | apply And.intro | (intro u hu;cases hu;done)))) hB (of_decide_eq_true rfl) (fun w1 hB1 kk z=>⟨kk.mono (fun i _ h=>by rw [h];exact hn),hJ.st (i:=0) rfl rfl hdk (hdn 2 rfl) (fun m a hm he=>kA (i:=0) (m:=m) rfl rfl hm rfl he) (fun a ha h=>eP (a:=_) rfl (List.mem_of_getElem? (i:=0) rfl) ha (by rw [h])) rfl (fun m a hm he=>ej (i:=0) (m:=m) rfl rfl hm he) hb hB1 kk⟩)) ?_
 refine dq (fun ab w108 k108 J108=>?_)
 rintro _ - rfl _ - rfl v8 qv8 - v9 qv9 - _ - -
 have:=k108.size
 obtain ⟨b8,hb8,zb8,HB8⟩:=J108.fin (i:=0) rfl
 try dsimp only at HB8
 have zl8:=HB8.lt
 obtain ⟨b9,hb9,zb9,HB9⟩:=J108.fin (i:=1) rfl
 try dsimp only at HB9
 have zl9:=HB9.lt
 have ne8_9:=J108.ne (i:=0) (m:=1) rfl rfl (by dsimp only;decide) hb8 hb9
 obtain rfl:=qv8.trans hb8
 obtain rfl:=qv9.trans hb9
 refine ct (U (bZ zd Z ?_))
 refine ah (aq (n:=4) Z Z (aZ Z) zk Z cT HB9 bV ?_)
 rintro w109 HB9 k109 z109
 have:=k109.size
 try simp only [zS,Nat.zero_add,Nat.reduceAdd,List.drop_nil] at HB9
 replace HB8:=HB8.keep k109 aH
 refine ac (U (V (O zd (aa (bP Z) (aa (bP Z) (aa (aA 1 28 Z) (ah (aR Z Z (bI Z) Z zk HB8 bV ?_))))))))
 rintro w110 HB8 k110 z110
 have:=k110.size
 try simp only [zS,Nat.zero_add,Nat.reduceAdd,List.drop_nil] at HB8
 refine aa (aA 2 4 Z) (ah (aR Z Z (cE Z) Z zk HB8 bV ?_))
 rintro w111 HB8 k111 z111
 have:=k111.size
 try simp only [zS,Nat.zero_add,Nat.reduceAdd,List.drop_nil] at HB8
 replace HB9:=(HB9.keep k110 aH).keep k111 aH
 refine aa (aA 0 28 Z) (ah (aR Z Z (bI Z) Z zk HB9 bV ?_))
 rintro w112 HB9 k112 z112
 have:=k112.size
 try simp only [zS,Nat.zero_add,Nat.reduceAdd,List.drop_nil] at HB9
 refine ac (U (V (cN zk ?_)))
 have e113:aX w112 { w112 with drawn:=w112.drawn + 1 }:=ao.drawn _ _
 replace E:=((((E.step k108 bi).step k109 bi).step k110 bi).step k111 bi).step k112 bi
 replace HG1:=((((HG1.keep k108 aC).keep k109 aC).keep k110 aC).keep k111 aC).keep k112 aC
 replace HS2:=((((HS2.keep k108 aC).keep k109 aC).keep k110 aC).keep k111 aC).keep k112 aC
 replace HSr:=((((HSr.keep k108 aC).keep k109 aC).keep k110 aC).keep k111 aC).keep k112 aC
 replace HB2:=((((HB2.keep k108 aH).keep k109 aH).keep k110 aH).keep k111 aH).keep k112 aH
 replace HB4:=((((HB4.keep k108 aH).keep k109 aH).keep k110 aH).keep k111 aH).keep k112 aH
 replace HG5:=((((HG5.keep k108 aC).keep k109 aC).keep k110 aC).keep k111 aC).keep k112 aC
 replace HS6:=((((HS6.keep k108 aC).keep k109 aC).keep k110 aC).keep k111 aC).keep k112 aC
 replace HS7:=((((HS7.keep k108 aC).keep k109 aC).keep k110 aC).keep k111 aC).keep k112 aC
 replace HB6:=((((HB6.keep k108 aH).keep k109 aH).keep k110 aH).keep k111 aH).keep k112 aH
 replace HB8:=HB8.keep k112 aH
 generalize hw113:({ w112 with drawn:=w112.drawn + 1 }:World)=w113 at e113 ⊢
 clear hw113
 have:=e113.size
 refine bT 15 Z zd zd zd ?_
 refine cf (aP) zd zd ?_
 replace HB2:=HB2.ext e113
 replace HB4:=HB4.ext e113
 replace HB6:=HB6.ext e113
 replace HB8:=HB8.ext e113
 replace HB9:=HB9.ext e113
 refine aB (fun ab w hR hd=>ap zk Z (by first | exact (HB9.ext hR).pv | exact (HB8.ext hR).pv | exact (HB6.ext hR).pv | exact (HB4.ext hR).pv | exact (HB2.ext hR).pv | assumption) Z) ?_
 refine aB (fun ab w hR hd=>aA 1 22 Z) ?_
 refine aB (fun ab w hR hd=>ag zk (hd 1 Z) (by first | exact (HB9.ext hR).pv 1 _ rfl | exact (HB8.ext hR).pv 1 _ rfl | exact (HB6.ext hR).pv 1 _ rfl | exact (HB4.ext hR).pv 1 _ rfl | exact (HB2.ext hR).pv 1 _ rfl | assumption)) ?_
 refine aB (fun ab w hR hd=>aQ Z) ?_
 refine aB (fun ab w hR hd=>jo (et:=53) (sz:=4) (l:=0) (h:=i) zk zk (hd 2 Z) Z ⟨.i64,((hd 3 Z)).trans (congrArg (Value.int _) zo)⟩ zo zo) ?_
 refine aB (fun ab w hR hd=>ap zk Z (by first | exact (HB9.ext hR).pv | exact (HB8.ext hR).pv | exact (HB6.ext hR).pv | exact (HB4.ext hR).pv | exact (HB2.ext hR).pv | assumption) Z) ?_
 refine aB (fun ab w hR hd=>ap zk Z (by first | exact (HB9.ext hR).pv | exact (HB8.ext hR).pv | exact (HB6.ext hR).pv | exact (HB4.ext hR).pv | exact (HB2.ext hR).pv | assumption) Z) ?_
 replace HS2:=HS2.ext e113
 replace HS6:=HS6.ext e113
 replace HS7:=HS7.ext e113
 refine cr (fun v W=>bs dv W bj v [(r.1,k,true,r.2.2.2),(k,r.2.1,r.2.2.1,r.2.2.2)]) (fun v w w' h k=>h.ext k) (fun ab w hR hd=>cz (t:=dv) (et:=53) (bytes:=64) (zl:=[.slice none 0 0,.slice none 0 0,.bool false,.int .i64 0,.slice none 0 0,.slice none 0 0,.bool false,.int .i64 0]) (cells:=[_,_,_,_,_,_,_,_]) zk zq zq (by unfold cQ;kernel_rfl) (vl (hd 5 Z) (hd 6 Z)) Z Z Z (nb (gu (HS6.ext hR).allB (HS2.ext hR).allB hg6) (gu (HS2.ext hR).allB (HS7.ext hR).allB hg6)) (fun b w1 hb HO e z=>⟨e,HO.view.allB⟩)) ?_
 refine aB (fun ab w hR hd=>aA 1 22 Z) ?_
 refine aB (fun ab w hR hd=>ag zk (hd 8 Z) (by first | exact (HB9.ext hR).pv 1 _ rfl | exact (HB8.ext hR).pv 1 _ rfl | exact (HB6.ext hR).pv 1 _ rfl | exact (HB4.ext hR).pv 1 _ rfl | exact (HB2.ext hR).pv 1 _ rfl | assumption)) ?_
 refine aB (fun ab w hR hd=>aQ Z) ?_
 refine aB (fun ab w hR hd=>cn (hd 10 Z) Z (by first | exact bn zo zo | rfl)) ?_
 refine aB (fun ab w hR hd=>jo (et:=53) (sz:=4) (l:=i + 1) (h:=rs.length) zk zk (hd 9 Z) ⟨.i64,((hd 11 Z)).trans (congrArg (Value.int _) zo)⟩ Z zo zo) ?_
 replace HSr:=HSr.ext e113
 refine cr (fun v W=>bs (dB dv) W bj v [(rs.take i).drop 0,[(r.1,k,true,r.2.2.2),(k,r.2.1,r.2.2.1,r.2.2.2)],(rs.take rs.length).drop (i + 1)]) (fun v w w' h k=>h.ext k) (fun ab w hR hd=>lI (t:=dB dv) (et:=22) (bytes:=24) (z:=.slice none 0 0) zk Z (by unfold cQ;kernel_rfl) (hd 4 Z) (show _=ab 7 from Z) (hd 12 Z) Z (bs.one (hd 7 Z)) Z ⟨_,rfl,((HSr.ext hR).sub (l:=0) (h:=i) zo zo).allB⟩ ⟨_,rfl,hd 7 Z⟩ ⟨_,rfl,((HSr.ext hR).sub (l:=i + 1) (h:=rs.length) zo zo).allB⟩ (fun b w1 hb HO e z=>⟨e,HO.view.allB⟩)) ?_
 have hfl:[(rs.take i).drop 0,[(r.1,k,true,r.2.2.2),(k,r.2.1,r.2.2.1,r.2.2.2)],(rs.take rs.length).drop (i + 1)].flatten=rs.take i ++ [(r.1,k,true,r.2.2.2),(k,r.2.1,r.2.2.1,r.2.2.2)] ++ rs.drop (i + 1):=by simp
 refine cr (fun v W=>bs dv W bj v [(rs.take i).drop 0,[(r.1,k,true,r.2.2.2),(k,r.2.1,r.2.2.1,r.2.2.2)],(rs.take rs.length).drop (i + 1)].flatten) (fun v w w' h k=>h.ext k) (fun ab w hR hd=>av zk (show _=ab 13 from Z) (ae.mono (pc (hd 13 Z) (by simp) (by simp;omega)) fun v w1 ⟨h,e⟩=>⟨e,h.allB⟩)) ?_
 refine bU (fun w114 e114=>?_)
 rintro _ rfl _ rfl _ rfl _ rfl _ rfl _ rfl _ rfl v46 HS46 _ rfl _ rfl _ rfl _ rfl _ rfl v52 HS52 v53 HS53
 have:=e114.size
 rw [hfl] at HS53
 obtain ⟨a53,c53,rfl⟩:=HS53.shape
 refine bG (U (bT 1 Z zd zd zd ?_))
 refine bZ zd Z ?_
 refine ah (aW zk (aZ Z) (bI Z) (ae.mono (pH HS53 zo (by simp;omega) (fun s hs=>by rcases List.mem_append.1 hs with hs | hs;(rcases List.mem_append.1 hs with hs | hs;(have:=hlens s (List.mem_of_mem_take hs);omega);(simp only [List.mem_cons,List.not_mem_nil,or_false] at hs;rcases hs with rfl | rfl <;> (dsimp only;omega)));(have:=hlens s (List.mem_of_mem_drop hs);omega))) ?_))
 rintro _ w10 ⟨⟨y,rfl,HG10⟩,e10⟩
 have:=e10.size
 obtain ⟨a10,c10,rfl,HS10,he10⟩:=HG10.mp
 refine ac (U (bT 2 Z zd zd zd ?_))
 refine cf (aP) zd zd ?_
 refine aB (fun ab w hR hd=>ai (t:=.agg _) Z Z) ?_
 refine aB (fun ab w hR hd=>ai (t:=.int _ _) Z Z) ?_
 refine bU (fun w115 e115=>?_)
 rintro _ rfl _ rfl
 have:=e115.size
 refine bG (U (bT 1 Z zd zd zd ?_))
 refine bZ zd Z ?_
 replace HB4:=((HB4.ext e114).ext e10).ext e115
 refine ah (aq (n:=2) Z Z (aZ Z) zk Z cT HB4 bV ?_)
 rintro w116 HB4 k116 z116
 have:=k116.size
 try simp only [zS,Nat.zero_add,Nat.reduceAdd,List.drop_nil] at HB4
 refine ac (U (bZ zd Z ?_))
 refine aa (bO Z) (ac (U (aw (bL (n:=2) Z zq zq Z zk HB4.pv Z (bB Z) ?_))))
 rw [hspl]
 replace E:=((((E.trans e113.keep).trans e114.keep).trans e10.keep).trans e115.keep).step k116 bi
 replace HG10:=(HG10.ext e115).keep k116 aC
 exact ⟨⟨_,rfl,HG10.mono fun b _ h=>by omega⟩,E⟩
end Go.Proofs.YteehplloacefmaaGreat
namespace Go.Proofs.YteehplloacefmaaGreat
open Go.Vc
theorem ud {k:List UInt8} (h:ep k=true):k.length≤24:=by
  simp only [ep,Bool.and_eq_true,decide_eq_true_eq] at h;exact h.2
theorem uA {w:World} {F G:Nat→Prop} {v kv:Value} {e:Int} {rs:List cO} {k:List UInt8} (HG1:aY li w F v (e,rs)) (HS2:Bv w G kv k):ae Tryz.prog 43 #[v,kv] w (fun o w'=>(∃ x,o=.tuple #[x,.int .i64 (fI (e,rs) k).2]∧aY li w' (fun b=>w.heap.size≤b) x (fI (e,rs) k).1)∧aX w w'):=by
 obtain ⟨a,c,rfl,HSr,he⟩:=HG1.mp
 obtain ⟨a3,c3,rfl⟩:=HS2.shape
 simp only at HSr he
 have hrc:=uT HSr
 refine aL 79 Tryz.func43 Z Z (by simp) ?_
 refine V ?_
 have E:=ao.refl (K:=aP) w
 replace HG1:=HG1.all
 replace HS2:=HS2.all
 replace HSr:=HSr.all
 refine O zd (ah (aS (aZ Z) ?_))
 rintro b2 w2 zb2 HB2 e2 z2
 have:=e2.size
 try simp only [Value.cells] at HB2
 refine ah (aD (z:=(.agg #[.int .i64 0,.slice none 0 0])) (by unfold aE;kernel_rfl) ?_)
 rintro b4 w4 zb4 HB4 e4 z4
 have:=e4.size
 try simp only [Value.cells] at HB4
 replace HB2:=HB2.ext e4
 refine aa (ad Z) (ac (U (V (O zd (aa (ap zk Z (by first | exact HB4.pv | exact HB2.pv | assumption) Z) ?_)))))
 replace HG1:=(HG1.ext e2).ext e4
 replace HS2:=(HS2.ext e2).ext e4
 refine aa (bP Z) (ah (aW zk (aZ Z) (bI Z) (ae.mono (mE HG1 HS2) ?_)))
 rintro _ w101 ⟨rfl,e101⟩
 have:=e101.size
 replace HB2:=HB2.ext e101
 replace HB4:=HB4.ext e101
 refine aa (bO Z) (ac (U (V (aO (V (O zd (aa (ap zk Z (by first | exact HB4.pv | exact HB2.pv | assumption) Z) ?_)))))))
 replace HG1:=HG1.ext e101
 refine ah (av zk (aZ Z) (ae.mono (mL HG1) ?_))
 rintro _ w102 ⟨rfl,e102⟩
 have:=e102.size
 refine aa (cg Z) ?_
 replace HS2:=(HS2.ext e101).ext e102
 refine aa (bH Z) (aj Z Z (fun hG=>bP Z) (cI Z Z (fun hG=>av zk (gd hG Z) (uU HS2)) ?_))
 rintro w103 e103
 have:=e103.size
 refine aj Z Z (fun hG=>cg (gd hG Z)) ?_
 refine aa (bF Z Z) ?_
 replace E:=((((E.trans e2.keep).trans e4.keep).trans e101.keep).trans e102.keep).trans e103.keep
 replace HSr:=((((HSr.ext e2).ext e4).ext e101).ext e102).ext e103
 replace HG1:=(HG1.ext e102).ext e103
 replace HB2:=(HB2.ext e102).ext e103
 replace HB4:=(HB4.ext e102).ext e103
 replace HS2:=HS2.ext e103
 refine aa (dl Z) (ac (U (am Z Z (fun hc=>?_) (fun hc=>?_))))
 ·
  refine V (O zd (aa (aV (pl:=[(0,1),(1,1)]) (z:=.agg #[.int .i64 0,.slice none 0 0]) (zl:=[.int .i64 0,.slice none 0 0]) zk (by unfold aE;kernel_rfl) Z Z (cells:=[_,_]) Z) ?_))
  refine ah (aq (n:=2) Z Z (aZ Z) zk Z cT HB4 bV ?_)
  rintro w104 HB4 k104 z104
  have:=k104.size
  try simp only [zS,Nat.zero_add,Nat.reduceAdd,List.drop_nil] at HB4
  refine aa (ad Z) (ac (U (aw (bz (ay (bL (n:=2) Z zq zq Z zk HB4.pv Z (bB Z) ?_))))))
  have h:(cY (e,rs) && ep k)=false:=by revert hc;rw [ep];cases cY (e,rs) <;> cases decide (1≤k.length) <;> cases decide (k.length≤24) <;> simp
  rw [fI,if_pos h]
  replace E:=E.step k104 bi
  exact ⟨⟨_,rfl,aY.mkMp (bs.nil _ _ _) zo⟩,E⟩
 have hmk:(cY (e,rs) && ep k)=true:=by revert hc;rw [ep];cases cY (e,rs) <;> cases decide (1≤k.length) <;> cases decide (k.length≤24) <;> simp
 have hm:cY (e,rs)=true:=by revert hmk;cases cY (e,rs) <;> simp
 have hkk:ep k=true:=by revert hmk;cases cY (e,rs) <;> simp
 have hnf:¬ (cY (e,rs) && ep k)=false:=by rw [hmk];simp
 have h24:k.length≤24:=ud hkk
 refine V (O zd (aa (aQ Z) (aa (bw Z Z) ?_)))
 refine aa (dl Z) (ac (U (am Z Z (fun hb=>?_) (fun hb=>?_))))
 ·
  refine V (O zd (aa (aV (pl:=[(0,1),(1,1)]) (z:=.agg #[.int .i64 0,.slice none 0 0]) (zl:=[.int .i64 0,.slice none 0 0]) zk (by unfold aE;kernel_rfl) Z Z (cells:=[_,_]) Z) ?_))
  refine ah (aq (n:=2) Z Z (aZ Z) zk Z cT HB4 bV ?_)
  rintro w105 HB4 k105 z105
  have:=k105.size
  try simp only [zS,Nat.zero_add,Nat.reduceAdd,List.drop_nil] at HB4
  refine aa (ad Z) (ac (U (aw (bz (ay (bL (n:=2) Z zq zq Z zk HB4.pv Z (bB Z) ?_))))))
  have h:=iW.1 (bl hb)
  rw [fI,if_neg hnf,h]
  replace E:=E.step k105 bi
  exact ⟨⟨_,rfl,aY.mkMp (bs.nil _ _ _) zo⟩,E⟩
 obtain ⟨i,hi⟩:∃ i,dZ (e,rs) (ge k)=some i:=by
  cases h:dZ (e,rs) (ge k) with
  | none=>rw [h] at hb;simp [dP] at hb
  | some i=>exact ⟨i,rfl⟩
 have hi1:=us hi hkk
 obtain ⟨_,hlt,_⟩:=ku hi
 simp only at hlt
 obtain ⟨hp1,hp2,_,hp4,_,_⟩:=cP hm
 simp only at hp1 hp2 hp4
 have hlens:=eA hm
 simp only at hlens
 obtain ⟨hl1,hl2,hgr⟩:=hlens _ (fX (l:=rs) hlt)
 have hlt2:i - 1 < rs.length:=by omega
 obtain ⟨hl3,hl4,hgr2⟩:=hlens _ (fX (l:=rs) hlt2)
 have hoi:dP (some i)=(i:Int):=rfl
 obtain ⟨q,cs,hq,hF,hqb,HPq,hr⟩:=HSr.el (fR hlt)
 obtain ⟨q',cs',hq',hF',_,HPp,hr'⟩:=HSr.el (fR hlt2)
 subst hq
 obtain rfl:=Option.some.inj hq'
 obtain ⟨r,hrr⟩:∃ r,r=rs.getD i fV:=⟨_,rfl⟩
 obtain ⟨p,hpp⟩:∃ p,p=rs.getD (i - 1) fV:=⟨_,rfl⟩
 rw [← hrr] at hr hl1 hl2 hgr
 rw [← hpp] at hr' hl3 hl4 hgr2
 have HG6:aY dv _ _ _ r:=⟨cs,rfl,hr⟩
 have HG5:aY dv _ _ _ p:=⟨cs',rfl,hr'⟩
 obtain ⟨b5,d5,b6,d6,rfl,HS6,HS7,hg⟩:=bN hr
 obtain ⟨b7,d7,b8,d8,rfl,HS8,HS9,hg2⟩:=bN hr'
 have hspl:fI (e,rs) k=if r.2.2.2≠p.2.2.2 then (oN,9) else jE e (rs.take (i - 1) ++ [(p.1,r.2.1,r.2.2.1,p.2.2.2)] ++ rs.drop (i + 1)):=by rw [fI,if_neg hnf,hi,hrr,hpp]
 rw [hi,hoi]
 refine V (dx (aP) zk zd zd ?_)
 refine aB (fun ab w hR hd=>aA 1 22 Z) ?_
 refine aB (fun ab w hR hd=>ag zk (hd 0 Z) (by first | exact (HPp.ext hR) 1 _ rfl | exact aK (HPp.ext hR) | exact (HPq.ext hR) 1 _ rfl | exact aK (HPq.ext hR) | exact (HB4.ext hR).pv 1 _ rfl | exact (HB2.ext hR).pv 1 _ rfl | assumption)) ?_
 refine aB (fun ab w hR hd=>aQ Z) ?_
 refine aB (fun ab w hR hd=>aF (et:=53) (sz:=4) (k:=i) zk zk (hd 1 Z) (hd 2 Z) (rfl) (hlt)) ?_
 refine aB (fun ab w hR hd=>aA 3 3 (hd 3 Z)) ?_
 refine aB (fun ab w hR hd=>ag zk (hd 4 Z) (by first | exact (HPp.ext hR) 3 _ rfl | exact aK (HPp.ext hR) | exact (HPq.ext hR) 3 _ rfl | exact aK (HPq.ext hR) | exact (HB4.ext hR).pv 3 _ rfl | exact (HB2.ext hR).pv 3 _ rfl | assumption)) ?_
 refine aB (fun ab w hR hd=>aA 1 22 Z) ?_
 refine aB (fun ab w hR hd=>ag zk (hd 6 Z) (by first | exact (HPp.ext hR) 1 _ rfl | exact aK (HPp.ext hR) | exact (HPq.ext hR) 1 _ rfl | exact aK (HPq.ext hR) | exact (HB4.ext hR).pv 1 _ rfl | exact (HB2.ext hR).pv 1 _ rfl | assumption)) ?_
 refine aB (fun ab w hR hd=>aQ Z) ?_
 refine aB (fun ab w hR hd=>iE (hd 8 Z) Z (by first | exact bn zo zo | rfl)) ?_
 refine aB (fun ab w hR hd=>aF (et:=53) (sz:=4) (k:=i - 1) zk zk (hd 7 Z) (hd 9 Z) (by first | rfl | omega) (hlt2)) ?_
 refine aB (fun ab w hR hd=>aA 3 3 (hd 10 Z)) ?_
 refine aB (fun ab w hR hd=>ag zk (hd 11 Z) (by first | exact (HPp.ext hR) 3 _ rfl | exact aK (HPp.ext hR) | exact (HPq.ext hR) 3 _ rfl | exact aK (HPq.ext hR) | exact (HB4.ext hR).pv 3 _ rfl | exact (HB2.ext hR).pv 3 _ rfl | assumption)) ?_
 refine aB (fun ab w hR hd=>bD (hd 5 Z) (hd 12 Z)) ?_
 refine aB (fun ab w hR hd=>ad (t:=.bool _) (hd 13 Z)) ?_
 refine bU (fun w106 e106=>?_)
 rintro _ rfl _ rfl _ rfl _ rfl _ rfl _ rfl _ rfl _ rfl _ rfl _ rfl _ rfl _ rfl _ rfl _ rfl _ rfl
 have:=e106.size
 replace E:=E.trans e106.keep
 replace HG1:=HG1.ext e106
 replace HS2:=HS2.ext e106
 replace HSr:=HSr.ext e106
 replace HB2:=HB2.ext e106
 replace HB4:=HB4.ext e106
 replace HPq:=HPq.ext e106
 replace HPp:=HPp.ext e106
 replace HG5:=HG5.ext e106
 replace HG6:=HG6.ext e106
 replace HS6:=HS6.ext e106
 replace HS7:=HS7.ext e106
 replace HS8:=HS8.ext e106
 replace HS9:=HS9.ext e106
 refine bG (U (am Z Z (fun hn=>?_) (fun hn=>?_)))
 ·
  refine V (O zd (aa (aV (pl:=[(0,1),(1,1)]) (z:=.agg #[.int .i64 0,.slice none 0 0]) (zl:=[.int .i64 0,.slice none 0 0]) zk (by unfold aE;kernel_rfl) Z Z (cells:=[_,_]) Z) ?_))
  refine ah (aq (n:=2) Z Z (aZ Z) zk Z cT HB4 bV ?_)
  rintro w107 HB4 k107 z107
  have:=k107.size
  try simp only [zS,Nat.zero_add,Nat.reduceAdd,List.drop_nil] at HB4
  refine aa (ad Z) (ac (U (aw (bz (ay (bL (n:=2) Z zq zq Z zk HB4.pv Z (bB Z) ?_))))))
  rw [hspl,if_pos (by simpa using hn)]
  replace E:=E.step k107 bi
  exact ⟨⟨_,rfl,aY.mkMp (bs.nil _ _ _) zo⟩,E⟩
 rw [if_neg (by simpa using hn)] at hspl
 refine ar (bE (U (V (O zd (aa (aA 1 22 Z) (aa (ag zk Z (by first | exact HPp 1 _ rfl | exact aK HPp | exact HPq 1 _ rfl | exact aK HPq | exact HB4.pv 1 _ rfl | exact HB2.pv 1 _ rfl | assumption)) ?_))))))
 refine aa (aQ Z) (aa (iE Z Z (by first | exact bn zo zo | rfl)) ?_)
 refine aa (aF (et:=53) (sz:=4) (k:=i - 1) zk zk Z Z (by first | rfl | omega) (hlt2)) ?_
 refine aa (ap zk Z (by first | exact HPp | exact HPq | exact HB4.pv | exact HB2.pv | assumption) Z) ?_
 refine ah (aD (z:=(.agg #[.slice none 0 0,.slice none 0 0,.bool false,.int .i64 0])) (by unfold aE;kernel_rfl) ?_)
 rintro b10 w10 zb10 HB10 e10 z10
 have:=e10.size
 try simp only [Value.cells] at HB10
 refine ah (aq (n:=4) Z Z (aZ Z) zk Z cT HB10 bV ?_)
 rintro w108 HB10 k108 z108
 have:=k108.size
 try simp only [zS,Nat.zero_add,Nat.reduceAdd,List.drop_nil] at HB10
 refine ac (U (V (cN zk ?_)))
 have e109:aX w108 { w108 with drawn:=w108.drawn + 1 }:=ao.drawn _ _
 replace E:=(E.trans e10.keep).step k108 bi
 replace HG1:=(HG1.ext e10).keep k108 aC
 replace HS2:=(HS2.ext e10).keep k108 aC
 replace HSr:=(HSr.ext e10).keep k108 aC
 replace HB2:=(HB2.ext e10).keep k108 aH
 replace HB4:=(HB4.ext e10).keep k108 aH
 replace HPq:=(HPq.ext e10).keep k108 (by intro h;(try dsimp only at h);(try simp only [au] at h);first | omega)
 replace HPp:=(HPp.ext e10).keep k108 (by intro h;(try dsimp only at h);(try simp only [au] at h);first | omega)
 replace HG5:=(HG5.ext e10).keep k108 aC
 replace HG6:=(HG6.ext e10).keep k108 aC
 replace HS6:=(HS6.ext e10).keep k108 aC
 replace HS7:=(HS7.ext e10).keep k108 aC
 replace HS8:=(HS8.ext e10).keep k108 aC
 replace HS9:=(HS9.ext e10).keep k108 aC
 generalize hw109:({ w108 with drawn:=w108.drawn + 1 }:World)=w109 at e109 ⊢
 clear hw109
 have:=e109.size
 refine bT 14 Z zd zd zd ?_
 replace HB10:=HB10.ext e109
 refine eH (fun k=>k=b10) (ly b10 _ _ [(13,1,some 5,(undef:Value))]) zd zd (fun ab done hd=>ly.start HB10 (fun a ha=>hd a.1 (qb (n:=14) Z a ha))) ?_
 refine aI (fun done ab w hR hcl hdk hJ hdn hd=>aA 1 22 Z) (fun done ab w hdk hJ=>hJ.src (ao.refl _) hdk Z) ?_
 replace HB2:=HB2.ext e109
 replace HB4:=HB4.ext e109
 replace HPq:=HPq.ext e109
 replace HPp:=HPp.ext e109
 refine aI (fun done ab w hR hcl hdk hJ hdn hd=>ag zk (hd 0 Z) (by first | exact (hJ.at0 hcl hdk ⟨_,_,rfl,rfl,by decide⟩).pv 1 _ rfl | exact (HPp.keep hR (by intro h;(try dsimp only at h);(try simp only [au] at h);first | omega)) 1 _ rfl | exact aK (HPp.keep hR (by intro h;(try dsimp only at h);(try simp only [au] at h);first | omega)) | exact (HPq.keep hR (by intro h;(try dsimp only at h);(try simp only [au] at h);first | omega)) 1 _ rfl | exact aK (HPq.keep hR (by intro h;(try dsimp only at h);(try simp only [au] at h);first | omega)) | exact (HB4.keep hR aH).pv 1 _ rfl | exact (HB2.keep hR aH).pv 1 _ rfl | assumption)) (fun done ab w hdk hJ=>hJ.src (ao.refl _) hdk Z) ?_
 refine aI (fun done ab w hR hcl hdk hJ hdn hd=>aQ Z) (fun done ab w hdk hJ=>hJ.src (ao.refl _) hdk Z) ?_
 refine aI (fun done ab w hR hcl hdk hJ hdn hd=>aF (et:=53) (sz:=4) (k:=i) zk zk (hd 1 Z) (hd 2 Z) (rfl) (hlt)) (fun done ab w hdk hJ=>hJ.src (ao.refl _) hdk Z) ?_
 refine aI (fun done ab w hR hcl hdk hJ hdn hd=>aA 1 28 (hd 3 Z)) (fun done ab w hdk hJ=>hJ.src (ao.refl _) hdk Z) ?_
 refine aI (fun done ab w hR hcl hdk hJ hdn hd=>ag zk (hd 4 Z) (by first | exact (hJ.at0 hcl hdk ⟨_,_,rfl,rfl,by decide⟩).pv 1 _ rfl | exact (HPp.keep hR (by intro h;(try dsimp only at h);(try simp only [au] at h);first | omega)) 1 _ rfl | exact aK (HPp.keep hR (by intro h;(try dsimp only at h);(try simp only [au] at h);first | omega)) | exact (HPq.keep hR (by intro h;(try dsimp only at h);(try simp only [au] at h);first | omega)) 1 _ rfl | exact aK (HPq.keep hR (by intro h;(try dsimp only at h);(try simp only [au] at h);first | omega)) | exact (HB4.keep hR aH).pv 1 _ rfl | exact (HB2.keep hR aH).pv 1 _ rfl | assumption)) (fun done ab w hdk hJ=>hJ.src (ao.refl _) hdk Z) ?_
 refine aI (fun done ab w hR hcl hdk hJ hdn hd=>aA 1 22 Z) (fun done ab w hdk hJ=>hJ.src (ao.refl _) hdk Z) ?_
 refine aI (fun done ab w hR hcl hdk hJ hdn hd=>ag zk (hd 6 Z) (by first | exact (hJ.at0 hcl hdk ⟨_,_,rfl,rfl,by decide⟩).pv 1 _ rfl | exact (HPp.keep hR (by intro h;(try dsimp only at h);(try simp only [au] at h);first | omega)) 1 _ rfl | exact aK (HPp.keep hR (by intro h;(try dsimp only at h);(try simp only [au] at h);first | omega)) | exact (HPq.keep hR (by intro h;(try dsimp only at h);(try simp only [au] at h);first | omega)) 1 _ rfl | exact aK (HPq.keep hR (by intro h;(try dsimp only at h);(try simp only [au] at h);first | omega)) | exact (HB4.keep hR aH).pv 1 _ rfl | exact (HB2.keep hR aH).pv 1 _ rfl | assumption)) (fun done ab w hdk hJ=>hJ.src (ao.refl _) hdk Z) ?_
 refine aI (fun done ab w hR hcl hdk hJ hdn hd=>aQ Z) (fun done ab w hdk hJ=>hJ.src (ao.refl _) hdk Z) ?_
 refine aI (fun done ab w hR hcl hdk hJ hdn hd=>aF (et:=53) (sz:=4) (k:=i) zk zk (hd 7 Z) (hd 8 Z) (rfl) (hlt)) (fun done ab w hdk hJ=>hJ.src (ao.refl _) hdk Z) ?_
 refine aI (fun done ab w hR hcl hdk hJ hdn hd=>aA 2 4 (hd 9 Z)) (fun done ab w hdk hJ=>hJ.src (ao.refl _) hdk Z) ?_
 refine aI (fun done ab w hR hcl hdk hJ hdn hd=>ag zk (hd 10 Z) (by first | exact (hJ.at0 hcl hdk ⟨_,_,rfl,rfl,by decide⟩).pv 2 _ rfl | exact (HPp.keep hR (by intro h;(try dsimp only at h);(try simp only [au] at h);first | omega)) 2 _ rfl | exact aK (HPp.keep hR (by intro h;(try dsimp only at h);(try simp only [au] at h);first | omega)) | exact (HPq.keep hR (by intro h;(try dsimp only at h);(try simp only [au] at h);first | omega)) 2 _ rfl | exact aK (HPq.keep hR (by intro h;(try dsimp only at h);(try simp only [au] at h);first | omega)) | exact (HB4.keep hR aH).pv 2 _ rfl | exact (HB2.keep hR aH).pv 2 _ rfl | assumption)) (fun done ab w hdk hJ=>hJ.src (ao.refl _) hdk Z) ?_
 refine aI (fun done ab w hR hcl hdk hJ hdn hd=>aA 1 28 Z) (fun done ab w hdk hJ=>hJ.src (ao.refl _) hdk Z) ?_
 refine ea (fun done ab w hR hcl hdk hJ hdn hd=>aR (hd 12 Z) Z Z (by first | exact bs.one (hd 5 rfl) | exact bs.one (hd 5 rfl).1 | exact ck.one (hd 5 rfl) | exact ck.one (hd 5 rfl).1 | (have h:=hd 5 rfl;dsimp only [eS] at h;rw [h];rfl) | exact (hd 5 rfl).1 | (obtain ⟨_,h⟩:=hd 5 rfl;rw [h];rfl) | exact (congrArg Value.oneCell' (hd 5 rfl)).trans rfl) zk (hJ.at (n:=0) Z hdk (fun m h=>by cases h)) (by rw [fi];first | exact of_decide_eq_true rfl | (rw [hlen];exact of_decide_eq_true rfl)) (fun w1 hB k z=>⟨k,hJ.step (n:=0) rfl hdk (fun m h=>by cases h) (fun k h=>by cases h;exact hdn 5 rfl) (iw rfl) rfl hB⟩)) ?_
 refine dq (fun ab w110 k110 J110=>?_)
 rintro _ - rfl _ - rfl _ - rfl _ - rfl _ - rfl _ qs5 rfl _ - rfl _ - rfl _ - rfl _ - rfl _ - rfl _ - rfl _ - rfl _ - -
 have:=k110.size
 have HX110:=J110.fin
 simp only [fF,sv,← qs5] at HX110
 replace HB10:=HX110
 clear HX110
 try simp only [zS,Nat.zero_add,Nat.reduceAdd,List.drop_nil] at HB10
 refine ct (U (bT 1 Z zd zd zd ?_))
 refine bZ zd Z ?_
 refine aa (aA 2 4 Z) (ac (U (bZ zd Z ?_)))
 refine ah (aR Z Z (cE Z) Z zk HB10 bV ?_)
 rintro w111 HB10 k111 z111
 have:=k111.size
 try simp only [zS,Nat.zero_add,Nat.reduceAdd,List.drop_nil] at HB10
 refine ac (U (V (cN zk ?_)))
 have e112:aX w111 { w111 with drawn:=w111.drawn + 1 }:=ao.drawn _ _
 replace E:=((E.trans e109.keep).step k110 bi).step k111 bi
 replace HG1:=((HG1.ext e109).keep k110 aC).keep k111 aC
 replace HS2:=((HS2.ext e109).keep k110 aC).keep k111 aC
 replace HSr:=((HSr.ext e109).keep k110 aC).keep k111 aC
 replace HG5:=((HG5.ext e109).keep k110 aC).keep k111 aC
 replace HG6:=((HG6.ext e109).keep k110 aC).keep k111 aC
 replace HS6:=((HS6.ext e109).keep k110 aC).keep k111 aC
 replace HS7:=((HS7.ext e109).keep k110 aC).keep k111 aC
 replace HS8:=((HS8.ext e109).keep k110 aC).keep k111 aC
 replace HS9:=((HS9.ext e109).keep k110 aC).keep k111 aC
 replace HB2:=(HB2.keep k110 aH).keep k111 aH
 replace HB4:=(HB4.keep k110 aH).keep k111 aH
 replace HPq:=(HPq.keep k110 (by intro h;(try dsimp only at h);(try simp only [au] at h);first | omega)).keep k111 (by intro h;(try dsimp only at h);(try simp only [au] at h);first | omega)
 replace HPp:=(HPp.keep k110 (by intro h;(try dsimp only at h);(try simp only [au] at h);first | omega)).keep k111 (by intro h;(try dsimp only at h);(try simp only [au] at h);first | omega)
 generalize hw112:({ w111 with drawn:=w111.drawn + 1 }:World)=w112 at e112 ⊢
 clear hw112
 have:=e112.size
 refine bT 15 Z zd zd zd ?_
 refine cf (aP) zd zd ?_
 replace HB2:=HB2.ext e112
 replace HB4:=HB4.ext e112
 replace HPq:=HPq.ext e112
 replace HPp:=HPp.ext e112
 replace HB10:=HB10.ext e112
 refine aB (fun ab w hR hd=>ap zk Z (by first | exact (HB10.ext hR).pv | exact (HPp.ext hR) | exact (HPq.ext hR) | exact (HB4.ext hR).pv | exact (HB2.ext hR).pv | assumption) Z) ?_
 refine aB (fun ab w hR hd=>aA 1 22 Z) ?_
 refine aB (fun ab w hR hd=>ag zk (hd 1 Z) (by first | exact (HB10.ext hR).pv 1 _ rfl | exact (HPp.ext hR) 1 _ rfl | exact aK (HPp.ext hR) | exact (HPq.ext hR) 1 _ rfl | exact aK (HPq.ext hR) | exact (HB4.ext hR).pv 1 _ rfl | exact (HB2.ext hR).pv 1 _ rfl | assumption)) ?_
 refine aB (fun ab w hR hd=>aQ Z) ?_
 refine aB (fun ab w hR hd=>iE (hd 3 Z) Z (by first | exact bn zo zo | rfl)) ?_
 refine aB (fun ab w hR hd=>jo (et:=53) (sz:=4) (l:=0) (h:=i - 1) zk zk (hd 2 Z) Z ⟨.i64,((hd 4 Z)).trans (congrArg (Value.int _) zo)⟩ zo zo) ?_
 refine aB (fun ab w hR hd=>ap zk Z (by first | exact (HB10.ext hR).pv | exact (HPp.ext hR) | exact (HPq.ext hR) | exact (HB4.ext hR).pv | exact (HB2.ext hR).pv | assumption) Z) ?_
 replace HS7:=HS7.ext e112
 replace HS8:=HS8.ext e112
 refine cr (fun v W=>bs dv W bj v [(p.1,r.2.1,r.2.2.1,p.2.2.2)]) (fun v w w' h k=>h.ext k) (fun ab w hR hd=>cp (t:=dv) (et:=53) (bytes:=64) zk zq (hd 6 Z) (gu (HS8.ext hR).allB (HS7.ext hR).allB hg2) (fun b w1 hb HO e z=>⟨e,HO.view.allB⟩)) ?_
 refine aB (fun ab w hR hd=>aA 1 22 Z) ?_
 refine aB (fun ab w hR hd=>ag zk (hd 8 Z) (by first | exact (HB10.ext hR).pv 1 _ rfl | exact (HPp.ext hR) 1 _ rfl | exact aK (HPp.ext hR) | exact (HPq.ext hR) 1 _ rfl | exact aK (HPq.ext hR) | exact (HB4.ext hR).pv 1 _ rfl | exact (HB2.ext hR).pv 1 _ rfl | assumption)) ?_
 refine aB (fun ab w hR hd=>aQ Z) ?_
 refine aB (fun ab w hR hd=>cn (hd 10 Z) Z (by first | exact bn zo zo | rfl)) ?_
 refine aB (fun ab w hR hd=>jo (et:=53) (sz:=4) (l:=i + 1) (h:=rs.length) zk zk (hd 9 Z) ⟨.i64,((hd 11 Z)).trans (congrArg (Value.int _) zo)⟩ Z zo zo) ?_
 replace HSr:=HSr.ext e112
 refine cr (fun v W=>bs (dB dv) W bj v [(rs.take (i - 1)).drop 0,[(p.1,r.2.1,r.2.2.1,p.2.2.2)],(rs.take rs.length).drop (i + 1)]) (fun v w w' h k=>h.ext k) (fun ab w hR hd=>lI (t:=dB dv) (et:=22) (bytes:=24) (z:=.slice none 0 0) zk Z (by unfold cQ;kernel_rfl) (hd 5 Z) (show _=ab 7 from Z) (hd 12 Z) Z (bs.one (hd 7 Z)) Z ⟨_,rfl,((HSr.ext hR).sub (l:=0) (h:=i - 1) zo zo).allB⟩ ⟨_,rfl,hd 7 Z⟩ ⟨_,rfl,((HSr.ext hR).sub (l:=i + 1) (h:=rs.length) zo zo).allB⟩ (fun b w1 hb HO e z=>⟨e,HO.view.allB⟩)) ?_
 have hfl:[(rs.take (i - 1)).drop 0,[(p.1,r.2.1,r.2.2.1,p.2.2.2)],(rs.take rs.length).drop (i + 1)].flatten=rs.take (i - 1) ++ [(p.1,r.2.1,r.2.2.1,p.2.2.2)] ++ rs.drop (i + 1):=by simp
 refine cr (fun v W=>bs dv W bj v [(rs.take (i - 1)).drop 0,[(p.1,r.2.1,r.2.2.1,p.2.2.2)],(rs.take rs.length).drop (i + 1)].flatten) (fun v w w' h k=>h.ext k) (fun ab w hR hd=>av zk (show _=ab 13 from Z) (ae.mono (pc (hd 13 Z) (by simp) (by simp;omega)) fun v w1 ⟨h,e⟩=>⟨e,h.allB⟩)) ?_
 refine bU (fun w113 e113=>?_)
 rintro _ rfl _ rfl _ rfl _ rfl _ rfl _ rfl _ rfl v46 HS46 _ rfl _ rfl _ rfl _ rfl _ rfl v52 HS52 v53 HS53
 have:=e113.size
 rw [hfl] at HS53
 obtain ⟨a53,c53,rfl⟩:=HS53.shape
 refine bG (U (bT 1 Z zd zd zd ?_))
 refine bZ zd Z ?_
 refine ah (aW zk (aZ Z) (bI Z) (ae.mono (pH HS53 zo (by simp;omega) (fun s hs=>by rcases List.mem_append.1 hs with hs | hs;(rcases List.mem_append.1 hs with hs | hs;(have:=hlens s (List.mem_of_mem_take hs);omega);(simp only [List.mem_cons,List.not_mem_nil,or_false] at hs;rcases hs with rfl <;> (dsimp only;omega)));(have:=hlens s (List.mem_of_mem_drop hs);omega))) ?_))
 rintro _ w20 ⟨⟨y,rfl,HG10⟩,e20⟩
 have:=e20.size
 obtain ⟨a10,c10,rfl,HS10,he10⟩:=HG10.mp
 refine ac (U (bT 2 Z zd zd zd ?_))
 refine cf (aP) zd zd ?_
 refine aB (fun ab w hR hd=>ai (t:=.agg _) Z Z) ?_
 refine aB (fun ab w hR hd=>ai (t:=.int _ _) Z Z) ?_
 refine bU (fun w114 e114=>?_)
 rintro _ rfl _ rfl
 have:=e114.size
 refine bG (U (bT 1 Z zd zd zd ?_))
 refine bZ zd Z ?_
 replace HB4:=((HB4.ext e113).ext e20).ext e114
 refine ah (aq (n:=2) Z Z (aZ Z) zk Z cT HB4 bV ?_)
 rintro w115 HB4 k115 z115
 have:=k115.size
 try simp only [zS,Nat.zero_add,Nat.reduceAdd,List.drop_nil] at HB4
 refine ac (U (bZ zd Z ?_))
 refine aa (bO Z) (ac (U (aw (bL (n:=2) Z zq zq Z zk HB4.pv Z (bB Z) ?_))))
 rw [hspl]
 replace E:=((((E.trans e112.keep).trans e113.keep).trans e20.keep).trans e114.keep).step k115 bi
 replace HG10:=(HG10.ext e114).keep k115 aC
 exact ⟨⟨_,rfl,HG10.mono fun b _ h=>by omega⟩,E⟩
end Go.Proofs.YteehplloacefmaaGreat
namespace Go.Proofs.YteehplloacefmaaGreat
open Go.Vc
theorem vP {w:World} {F G:Nat→Prop} {v kv:Value} {e g:Int} {rs:List cO} {k:List UInt8} (HG1:aY li w F v (e,rs)) (HS2:Bv w G kv k):ae Tryz.prog 94 #[v,kv,.int .i64 g] w (fun o w'=>(∃ x,o=.tuple #[x,.int .i64 (fx (e,rs) k g).2]∧aY li w' (fun b=>w.heap.size≤b) x (fx (e,rs) k g).1)∧aX w w'):=by
 obtain ⟨a,c,rfl,HSr,he⟩:=HG1.mp
 obtain ⟨a3,c3,rfl⟩:=HS2.shape
 simp only at HSr he
 have hmx:=HS2.len_max
 refine aL 55 Tryz.func94 Z Z (by simp) ?_
 refine V ?_
 have E:=ao.refl (K:=aP) w
 replace HG1:=HG1.all
 replace HS2:=HS2.all
 replace HSr:=HSr.all
 refine O zd (ah (aS (aZ Z) ?_))
 rintro b2 w2 zb2 HB2 e2 z2
 have:=e2.size
 try simp only [Value.cells] at HB2
 refine ah (aD (z:=(.agg #[.int .i64 0,.slice none 0 0])) (by unfold aE;kernel_rfl) ?_)
 rintro b4 w4 zb4 HB4 e4 z4
 have:=e4.size
 try simp only [Value.cells] at HB4
 replace HB2:=HB2.ext e4
 refine aa (ad Z) (ac (U (V (O zd (aa (ap zk Z (by first | exact HB4.pv | exact HB2.pv | assumption) Z) ?_)))))
 replace HG1:=(HG1.ext e2).ext e4
 replace HS2:=(HS2.ext e2).ext e4
 refine aa (bP Z) (ah (aW zk (aZ Z) (bI Z) (ae.mono (mE HG1 HS2) ?_)))
 rintro _ w101 ⟨rfl,e101⟩
 have:=e101.size
 replace HB2:=HB2.ext e101
 replace HB4:=HB4.ext e101
 refine aa (bO Z) (ac (U (V (aO (V (O zd (aa (ap zk Z (by first | exact HB4.pv | exact HB2.pv | assumption) Z) ?_)))))))
 replace HG1:=HG1.ext e101
 refine ah (av zk (aZ Z) (ae.mono (mL HG1) ?_))
 rintro _ w102 ⟨rfl,e102⟩
 have:=e102.size
 refine aa (cg Z) ?_
 refine aa (bH Z) (aj Z Z (fun hG=>aQ Z) (cI Z Z (fun hG=>av zk (gd hG Z) (nW)) ?_))
 rintro w103 e103
 have:=e103.size
 refine aj Z Z (fun hG=>cg (gd hG Z)) ?_
 refine aa (bF Z Z) ?_
 refine aa (bH Z) (aj Z Z (fun hG=>bP Z) (aj Z Z (fun hG=>ba (et:=5) zk (gd hG Z)) ?_))
 refine aj Z Z (fun hG=>bX (gd hG Z) Z) ?_
 refine aa (bF Z Z) ?_
 replace E:=((((E.trans e2.keep).trans e4.keep).trans e101.keep).trans e102.keep).trans e103.keep
 replace HSr:=((((HSr.ext e2).ext e4).ext e101).ext e102).ext e103
 replace HS2:=((HS2.ext e101).ext e102).ext e103
 replace HG1:=(HG1.ext e102).ext e103
 replace HB2:=(HB2.ext e102).ext e103
 replace HB4:=(HB4.ext e102).ext e103
 refine aa (dl Z) (ac (U (am Z Z (fun hc=>?_) (fun hc=>?_))))
 ·
  refine V (O zd (aa (aV (pl:=[(0,1),(1,1)]) (z:=.agg #[.int .i64 0,.slice none 0 0]) (zl:=[.int .i64 0,.slice none 0 0]) zk (by unfold aE;kernel_rfl) Z Z (cells:=[_,_]) Z) ?_))
  refine ah (aq (n:=2) Z Z (aZ Z) zk Z cT HB4 bV ?_)
  rintro w104 HB4 k104 z104
  have:=k104.size
  try simp only [zS,Nat.zero_add,Nat.reduceAdd,List.drop_nil] at HB4
  refine aa (ad Z) (ac (U (aw (bz (ay (bL (n:=2) Z zq zq Z zk HB4.pv Z (bB Z) ?_))))))
  replace E:=E.step k104 bi
  replace HG1:=HG1.keep k104 aC
  replace HS2:=HS2.keep k104 aC
  replace HSr:=HSr.keep k104 aC
  replace HB2:=HB2.keep k104 aH
  have h:(cY (e,rs) && dJ g && decide (k.length≤24))=false:=by
   have h3:decide ((24:Int) < (k.length:Int)) = !decide (k.length≤24):=by rw [← decide_not];exact decide_eq_decide.2 zo
   rw [h3] at hc;revert hc;cases cY (e,rs) <;> cases dJ g <;> cases decide (k.length≤24) <;> simp
  rw [fx,if_pos h]
  exact ⟨⟨_,rfl,aY.mkMp (bs.nil _ _ _) zo⟩,E⟩
 have hall:cY (e,rs)=true∧dJ g=true∧decide (k.length≤24)=true:=by
  have h3:decide ((24:Int) < (k.length:Int)) = !decide (k.length≤24):=by rw [← decide_not];exact decide_eq_decide.2 zo
  rw [h3] at hc;revert hc;cases cY (e,rs) <;> cases dJ g <;> cases decide (k.length≤24) <;> simp
 obtain ⟨hm,hgb,hkl⟩:=hall
 have hnf:¬ (cY (e,rs) && dJ g && decide (k.length≤24))=false:=by rw [hm,hgb,hkl];simp
 have hgr0:=gF hgb
 refine V (O zd (aa (aQ Z) (aa (bw Z Z) ?_)))
 refine aa (dl Z) (ac (U (am Z Z (fun hb=>?_) (fun hb=>?_))))
 ·
  refine V (O zd (aa (aV (pl:=[(0,1),(1,1)]) (z:=.agg #[.int .i64 0,.slice none 0 0]) (zl:=[.int .i64 0,.slice none 0 0]) zk (by unfold aE;kernel_rfl) Z Z (cells:=[_,_]) Z) ?_))
  refine ah (aq (n:=2) Z Z (aZ Z) zk Z cT HB4 bV ?_)
  rintro w105 HB4 k105 z105
  have:=k105.size
  try simp only [zS,Nat.zero_add,Nat.reduceAdd,List.drop_nil] at HB4
  refine aa (ad Z) (ac (U (aw (bz (ay (bL (n:=2) Z zq zq Z zk HB4.pv Z (bB Z) ?_))))))
  have h:=iW.1 (bl hb)
  rw [fx,if_neg hnf,h]
  replace E:=E.step k105 bi
  exact ⟨⟨_,rfl,aY.mkMp (bs.nil _ _ _) zo⟩,E⟩
 obtain ⟨i,hi⟩:∃ i,dZ (e,rs) (ge k)=some i:=by
  cases h:dZ (e,rs) (ge k) with
  | none=>rw [h] at hb;simp [dP] at hb
  | some i=>exact ⟨i,rfl⟩
 obtain ⟨_,hlt,_⟩:=ku hi
 simp only at hlt
 obtain ⟨hp1,hp2,_,hp4,_,_⟩:=cP hm
 simp only at hp1 hp2 hp4
 have hlens:=eA hm
 simp only at hlens
 have hoi:dP (some i)=(i:Int):=rfl
 obtain ⟨q,cs,hq,hF,hqb,HPq,hr⟩:=HSr.el (fR hlt)
 subst hq
 obtain ⟨hl1,hl2,hgr⟩:=hlens _ (fX (l:=rs) hlt)
 obtain ⟨r,hrr⟩:∃ r,r=rs.getD i fV:=⟨_,rfl⟩
 have hel:rs[i]? = some r:=by rw [hrr];exact fR hlt
 rw [← hrr] at hr hl1 hl2 hgr
 obtain ⟨b5,d5,b6,d6,rfl,_,_,hg⟩:=bN hr
 have hspl:fx (e,rs) k g=if r.2.2.2=g then (oN,9) else jE e (rs.set i (r.1,r.2.1,r.2.2.1,g)):=by rw [fx,if_neg hnf,hi,hrr]
 rw [hi,hoi]
 refine V (O zd (aa (aA 1 22 Z) (aa (ag zk Z (by first | exact HPq 1 _ rfl | exact aK HPq | exact HB4.pv 1 _ rfl | exact HB2.pv 1 _ rfl | assumption)) ?_)))
 refine aa (aQ Z) (aa (aF (et:=53) (sz:=4) (k:=i) zk zk Z Z (rfl) (hlt)) ?_)
 refine aa (aA 3 3 Z) (aa (ag zk Z (by first | exact HPq 3 _ rfl | exact aK HPq | exact HB4.pv 3 _ rfl | exact HB2.pv 3 _ rfl | assumption)) ?_)
 refine aa (aQ Z) (aa (aJ Z Z) ?_)
 refine aa (dl Z) (ac (U (am Z Z (fun hn=>?_) (fun hn=>?_))))
 ·
  refine V (O zd (aa (aV (pl:=[(0,1),(1,1)]) (z:=.agg #[.int .i64 0,.slice none 0 0]) (zl:=[.int .i64 0,.slice none 0 0]) zk (by unfold aE;kernel_rfl) Z Z (cells:=[_,_]) Z) ?_))
  refine ah (aq (n:=2) Z Z (aZ Z) zk Z cT HB4 bV ?_)
  rintro w106 HB4 k106 z106
  have:=k106.size
  try simp only [zS,Nat.zero_add,Nat.reduceAdd,List.drop_nil] at HB4
  refine aa (ad Z) (ac (U (aw (bz (ay (bL (n:=2) Z zq zq Z zk HB4.pv Z (bB Z) ?_))))))
  rw [hspl,if_pos (by simpa using hn)]
  replace E:=E.step k106 bi
  exact ⟨⟨_,rfl,aY.mkMp (bs.nil _ _ _) zo⟩,E⟩
 rw [if_neg (by simpa using hn)] at hspl
 refine ar (bE (U (V (O zd (aa (aA 1 22 Z) (aa (ag zk Z (by first | exact HPq 1 _ rfl | exact aK HPq | exact HB4.pv 1 _ rfl | exact HB2.pv 1 _ rfl | assumption)) ?_))))))
 refine ah (av zk (bI Z) (ae.mono (tL HSr zo) ?_))
 rintro v9 w9 ⟨HO9,e9⟩
 have:=e9.size
 obtain ⟨a9,c9,rfl⟩:=HO9.shape
 obtain ⟨b9,rfl,hb9,hb9'⟩:=HO9.addr (fun h=>by rw [h] at hlt;simp at hlt)
 have zo_HO9:=fun (b:Nat) h=>HO9.own_lt (b:=b) h
 refine aa (cF Z) (ac (U (V (O zd (aa (bP Z) (aa (aQ Z) (aa (aQ Z) (aa (aF (et:=53) (sz:=4) (k:=i) zk zk Z Z (rfl) (hlt)) ?_))))))))
 refine aa (aA 3 3 Z) (ah (hC (k:=i) (off:=3) Z (by rw [show dv.sz=4 from rfl];simp [eE]) (by first | decide | exact (of_decide_eq_true rfl:3 < 2)) (bB Z) Z zk HO9 (x1:=(r.1,r.2.1,r.2.2.1,g)) hel (fun cs h=>by obtain ⟨a1,c1,a2,c2,rfl,h1,h2,_⟩:=bN h;exact gu h1 h2 zo) ?_))
 rintro w11 HO11 k11 z11
 have:=k11.size
 have zo_HO11:=fun (b:Nat) h=>HO11.own_lt (b:=b) h
 replace HB2:=(HB2.ext e9).keep k11 aH
 replace HB4:=(HB4.ext e9).keep k11 aH
 replace HPq:=(HPq.ext e9).keep k11 (by intro h;(try dsimp only at h);(try simp only [au] at h);first | omega)
 refine ac (U (V (O zd (aa (ap zk Z (by first | exact HPq | exact HB4.pv | exact HB2.pv | assumption) Z) ?_))))
 refine aa (bP Z) (ah (aW zk (aZ Z) (bI Z) (ae.mono (pH HO11.view zo (by simp;omega) (fun s hs=>by rcases List.mem_or_eq_of_mem_set hs with hs | rfl;(have:=hlens s hs;omega);(dsimp only;omega))) ?_)))
 replace HG1:=(HG1.ext e9).keep k11 aC
 replace HS2:=(HS2.ext e9).keep k11 aC
 replace HSr:=(HSr.ext e9).keep k11 aC
 rintro _ w20 ⟨⟨y,rfl,HG10⟩,e20⟩
 have:=e20.size
 obtain ⟨a10,c10,rfl,HS10,he10⟩:=HG10.mp
 replace HB4:=HB4.ext e20
 refine aa (ai (t:=.agg _) Z Z) (aa (ai (t:=.int _ _) Z Z) (ah (aq (n:=2) Z Z (aZ Z) zk Z cT HB4 bV ?_)))
 rintro w107 HB4 k107 z107
 have:=k107.size
 try simp only [zS,Nat.zero_add,Nat.reduceAdd,List.drop_nil] at HB4
 refine aa (bO Z) (ac (U (aw (bL (n:=2) Z zq zq Z zk HB4.pv Z (bB Z) ?_))))
 rw [hspl]
 replace E:=(((E.trans e9.keep).step k11 bi).trans e20.keep).step k107 bi
 replace HG10:=HG10.keep k107 aC
 exact ⟨⟨_,rfl,HG10.mono fun b _ h=>by omega⟩,E⟩
end Go.Proofs.YteehplloacefmaaGreat
