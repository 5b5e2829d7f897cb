/- Steps and lemmas for the walks. -/
import Derived.Test.YteehplloacefmaaGreatM6
import Derived.Test.YteehplloacefmaaGreatVy
set_option linter.unusedVariables false
set_option linter.unusedSimpArgs false
set_option maxRecDepth 100000
namespace Go.Proofs.YteehplloacefmaaGreat
open Go.Vc
abbrev WaV:=Int × iq
abbrev uM:Ty WaV:=bM (dL .i64) pe
def vV (k:Int) (m:iJ):iq:=(k,gm,m,[],[],[],0)
def fp (x:fy):WaV:=(x.1.2.2.2.2.1,vV (if x.2 then 5 else 3) x.1)
def ow (s:it):List WaV:=if dA s then s.2.2.map fp else []
theorem sg {w:World} {F:Nat→Prop} {g k:Int} {mv:iJ} {m0 m1 m2 m3 m4 m5:Value} (i1:cH g) (i2:cH k) (h:aY jU w F (.agg #[m0,m1,m2,m3,m4,m5]) mv):uM.rep w F [.int .i64 g,.int .i64 k,.int .i64 0,.int .i64 0,.int .i64 0,.slice none 0 0,.slice none 0 0,.slice none 0 0,.slice none 0 0,.bool false,.int .i64 0,m0,m1,m2,m3,m4,m5,.slice none 0 0,.slice none 0 0,.slice none 0 0,.int .i64 0] (g,vV k mv):=
  ⟨[_],_,rfl,⟨rfl,co i1⟩,sj i2 eI.rep h.rep (bs.nil _ _ _) (bs.nil _ _ _) (bs.nil _ _ _) ⟨by decide,by decide⟩⟩
theorem uz {w:World} {F:Nat→Prop} {v:Value} {e0 n:Int} {rs:List cO} {ms:List fy} (HG1:aY iK w F v ((e0,rs),n,ms)) (hn:ms.length≤1000) :
    ae Tryz.prog 13 #[v] w (fun o w'=>(∃ a c,o=.slice a (ow ((e0,rs),n,ms)).length c∧bs uM w' (fun q=>w.heap.size≤q) o (ow ((e0,rs),n,ms)))∧aX w w'):=by
 obtain ⟨a1,c1,a2,c2,rfl,HSr,HSm,ie,im⟩:=HG1.mt
 simp only at HSr HSm ie im
 refine aL 34 Tryz.func13 Z Z (by simp) ?_
 refine V ?_
 have E:=ao.refl (K:=aP) w
 replace HG1:=HG1.all
 replace HSm:=HSm.all
 refine O zd (ah (aS (aZ Z) ?_))
 rintro b1 w1 zb1 HB1 e1 z1
 have:=e1.size
 try simp only [Value.cells] at HB1
 refine aa (ad Z) (ac (U (V (V (O zd (aa (ap zk Z (by first | exact HB1.pv | assumption) Z) ?_))))))
 replace HG1:=HG1.ext e1
 refine ah (av zk (aZ Z) (ae.mono (jx HG1) ?_))
 rintro _ w101 ⟨rfl,e101⟩
 have:=e101.size
 refine aa (cg Z) ?_
 replace E:=(E.trans e1.keep).trans e101.keep
 replace HSm:=(HSm.ext e1).ext e101
 replace HG1:=HG1.ext e101
 replace HB1:=HB1.ext e101
 refine ac (U (am Z Z (fun h9=>?_) (fun h9=>?_)))
 ·
  refine V (O zd (aa (ad Z) (ac (U (aw (ay (aU Z zq (bI Z) ?_)))))))
  have h:¬ dA ((e0,rs),n,ms)=true:=by simpa using h9
  rw [ow,if_neg h]
  exact ⟨⟨_,_,rfl,bs.nil _ _ _⟩,E⟩
 have hms:dA ((e0,rs),n,ms)=true:=by simpa using h9
 obtain ⟨p1,p2,p3,p4⟩:=eg.1 hms
 simp only at p4
 have hl2:=mg p4
 have hwl:ow ((e0,rs),n,ms)=ms.map fp:=by rw [ow,if_pos hms]
 rw [hwl]
 obtain ⟨n2,hn2⟩:∃ n,n=w101.heap.size:=⟨_,rfl⟩
 refine ar (U (V (O zd (aa (ad Z) (ac (U (V (V (O zd ?_)))))))))
 refine aa (aA 3 25 Z) (aa (ag zk Z (by first | exact HB1.pv 3 _ rfl | assumption)) ?_)
 refine aa (ba (et:=55) zk Z) ?_
 refine aa (be Z) (ac (U (aO (cy (τ:=Nat × Option Addr × Nat) [3,5,6,13,14,15,16,17,18,19,20,21,22,23,24,25,26,27,28,29,30,31,32] (fun (i,a5,c5)=>[(3,.slice a5 i c5),(13,.int .i64 i)]) (fun (i,a5,c5) W=>aX w W∧ao (fun b=>n2≤b) w101 W∧i≤ms.length∧ck uM 59 W n2 (fun b=>n2≤b∧b < W.heap.size) (.slice a5 i c5) ((ms.take i).map fp)) (fun (i,a5,c5)=>ms.length - i) (0,none,0) (by exact ⟨rfl,rfl,trivial⟩) (by exact ⟨E,ao.refl _,Nat.zero_le _,ck.nil _ _ _ _ _⟩) ?_))))
 rintro ⟨i,a5,c5⟩ w102 j ⟨E,EL1,h1,HOx⟩
 have:=EL1.size
 have zo_HOx:=fun (b:Nat) h=>HOx.own_lt (b:=b) h
 refine V (O zd (aa (bw Z Z) ?_))
 replace HSm:=HSm.keep EL1 aC
 replace HB1:=HB1.keep EL1 aH
 refine ac (U (V (am Z Z (fun hlt=>?_) (fun hlt=>?_))))
 ·
  have hlt:=bl hlt
  have htl:(ms.take i).length=i:=by rw [List.length_take];omega
  obtain ⟨r,hx,_⟩:=eC (l:=ms) (i:=i) zo
  obtain ⟨hl1,hl3⟩:=hl2 r (List.mem_of_getElem? hx)
  obtain ⟨n1,hn1'⟩:∃ n,n=w102.heap.size:=⟨_,rfl⟩
  refine ar (U (V (aO (V (O zd (ah (ed (et:=55) zk zk (bI Z) HSm (bB Z) Z hx ?_)))))))
  rintro q cs hF HPq hr
  have HG2:aY eQ _ _ _ r:=⟨cs,rfl,hr⟩
  obtain ⟨b3,d3,b5,d5,rfl,_,_,i1,i2,i3⟩:=cR hr
  have HG3:=aY.maMv HG2
  refine aa (ap zk Z (by first | exact HPq | exact HB1.pv | assumption) Z) ?_
  refine ah (aD (z:=(.agg #[.int .i64 0,.slice none 0 0,.slice none 0 0,.bool false,.int .i64 0,.int .i64 0,.bool false])) (by unfold aE;kernel_rfl) ?_)
  rintro b8 w8 zb8 HB8 e8 z8
  have:=e8.size
  try simp only [Value.cells] at HB8
  refine ah (aq (n:=7) Z Z (aZ Z) zk Z cT HB8 bV ?_)
  rintro w103 HB8 k103 z103
  have:=k103.size
  try simp only [zS,Nat.zero_add,Nat.reduceAdd,List.drop_nil] at HB8
  replace HB1:=(HB1.ext e8).keep k103 aH
  replace HPq:=(HPq.ext e8).keep k103 (by intro h;(try dsimp only at h);(try simp only [au] at h);first | omega)
  refine ac (U (V (O zd (aa (aA 0 46 Z) (aa (ap zk Z (by first | exact (show Pv _ _ [_,_,_,_,_,_] from aN 0 6 HB8.pv) | exact (show Pv _ _ [_,_,_,_,_,_] from aN 0 6 HPq) | exact (show Pv _ _ [_,_,_,_,_,_] from aN 0 6 HB1.pv) | exact bg 0 HB8.pv | exact bg 0 HPq | exact bg 0 HB1.pv | exact HPq | assumption) Z) ?_)))))
  replace HG3:=(HG3.ext e8).keep k103 aC
  refine ah (av zk (aZ Z) (ae.mono (kN HG3 zo zo) ?_))
  rintro v42 w42 ⟨HG42,e42⟩
  have:=e42.size
  obtain ⟨a19,c19,a22,c22,rfl,HS19,HS22,j1,j2,j3⟩:=aY.mv HG42
  refine aa (aV (pl:=[(0,1),(1,9),(10,6),(16,1),(17,1),(18,1),(19,1)]) (z:=.agg #[.int .i64 0,.int .i64 0,.int .i64 0,.int .i64 0,.slice none 0 0,.slice none 0 0,.slice none 0 0,.slice none 0 0,.bool false,.int .i64 0,.int .i64 0,.slice none 0 0,.slice none 0 0,.bool false,.int .i64 0,.int .i64 0,.slice none 0 0,.slice none 0 0,.slice none 0 0,.int .i64 0]) (zl:=[.int .i64 0,.int .i64 0,.int .i64 0,.int .i64 0,.slice none 0 0,.slice none 0 0,.slice none 0 0,.slice none 0 0,.bool false,.int .i64 0,.int .i64 0,.slice none 0 0,.slice none 0 0,.bool false,.int .i64 0,.int .i64 0,.slice none 0 0,.slice none 0 0,.slice none 0 0,.int .i64 0]) zk (by unfold aE;kernel_rfl) Z Z (cells:=[_,_,_,_,_,_,_,_,_,_,_,_,_,_,_,_,_,_,_,_]) Z) ?_
  refine ah (aD (z:=(.agg #[.int .i64 0,.int .i64 0,.int .i64 0,.int .i64 0,.slice none 0 0,.slice none 0 0,.slice none 0 0,.slice none 0 0,.bool false,.int .i64 0,.int .i64 0,.slice none 0 0,.slice none 0 0,.bool false,.int .i64 0,.int .i64 0,.slice none 0 0,.slice none 0 0,.slice none 0 0,.int .i64 0])) (by unfold aE;kernel_rfl) ?_)
  rintro b6 w6 zb6 HB6 e6 z6
  have:=e6.size
  try simp only [Value.cells] at HB6
  refine ah (aq (n:=20) Z Z (aZ Z) zk Z cT HB6 bV ?_)
  rintro w104 HB6 k104 z104
  have:=k104.size
  try simp only [zS,Nat.zero_add,Nat.reduceAdd,List.drop_nil] at HB6
  replace HB1:=((HB1.ext e42).ext e6).keep k104 aH
  replace HPq:=((HPq.ext e42).ext e6).keep k104 (by intro h;(try dsimp only at h);(try simp only [au] at h);first | omega)
  replace HB8:=((HB8.ext e42).ext e6).keep k104 aH
  refine ac (U (V (V (O zd (aa (aA 6 4 Z) (aa (ag zk Z (by first | exact HB6.pv 6 _ rfl | exact HB8.pv 6 _ rfl | exact HPq 6 _ rfl | exact aK HPq | exact HB1.pv 6 _ rfl | assumption)) ?_))))))
  replace E:=((((E.trans e8.keep).step k103 bi).trans e42.keep).trans e6.keep).step k104 bi
  replace HSm:=((((HSm.ext e8).keep k103 aC).ext e42).ext e6).keep k104 aC
  replace HOx:=((((HOx.ext e8).keep k103 (by intro i ho he;have he0:=he;have ho0:=ho;(try dsimp only [aP] at he);(try simp only [Value.ownBlock,Option.some.injEq,reduceCtorEq] at ho);(try simp only [Value.ownBlock,Option.some.injEq,reduceCtorEq] at he);first | exact he.elim | exact ho.elim | omega | (have:=zo_HOx _ ho0;omega)) (by intro i _ hi _ he;have he0:=he;have hi:=hi;have he:=he;(try dsimp only [aP,bj] at hi he);(try simp only [Value.ownBlock,Option.some.injEq,reduceCtorEq] at he);all_goals first | exact hi.elim | exact hi.1.elim | exact he.elim | omega | (rcases hi with hi | hi <;> omega) | (rcases he with he | he <;> omega))).ext e42).ext e6).keep k104 (by intro i ho he;have he0:=he;have ho0:=ho;(try dsimp only [aP] at he);(try simp only [Value.ownBlock,Option.some.injEq,reduceCtorEq] at ho);(try simp only [Value.ownBlock,Option.some.injEq,reduceCtorEq] at he);first | exact he.elim | exact ho.elim | omega | (have:=zo_HOx _ ho0;omega)) (by intro i _ hi _ he;have he0:=he;have hi:=hi;have he:=he;(try dsimp only [aP,bj] at hi he);(try simp only [Value.ownBlock,Option.some.injEq,reduceCtorEq] at he);all_goals first | exact hi.elim | exact hi.1.elim | exact he.elim | omega | (rcases hi with hi | hi <;> omega) | (rcases he with he | he <;> omega))
  replace EL1:=((((EL1.trans e8.keep).step k103 bi).trans e42.keep).trans e6.keep).step k104 bi
  replace HG2:=((((HG2.ext e8).keep k103 aC).ext e42).ext e6).keep k104 aC
  replace HG3:=((HG3.ext e42).ext e6).keep k104 aC
  replace HG42:=(HG42.ext e6).keep k104 aC
  replace HS19:=(HS19.ext e6).keep k104 aC
  replace HS22:=(HS22.ext e6).keep k104 aC
  refine ac (U (am Z Z (fun h22=>?_) (fun h22=>?_)))
  ·
   refine O zd (aa (aA 0 38 Z) (ah (aR Z Z (bB Z) Z zk HB6 bV ?_)))
   rintro w105 HB6 k105 z105
   have:=k105.size
   try simp only [zS,Nat.zero_add,Nat.reduceAdd,List.drop_nil] at HB6
   replace HB1:=HB1.keep k105 aH
   replace HPq:=HPq.keep k105 (by intro h;(try dsimp only at h);(try simp only [au] at h);first | omega)
   replace HB8:=HB8.keep k105 aH
   refine ac (U (O zd (aa (bP Z) (aa (aA 0 46 Z) (aa (aA 4 3 Z) (aa (ag zk Z (by first | exact HB6.pv 4 _ rfl | exact HB8.pv 4 _ rfl | exact HPq 4 _ rfl | exact aK HPq | exact HB1.pv 4 _ rfl | assumption)) ?_))))))
   refine aa (ap zk Z (by first | exact HB6.pv | exact HB8.pv | exact HPq | exact HB1.pv | assumption) Z) ?_
   refine aa (aV (pl:=[(0,1),(1,20)]) (z:=.agg #[.int .i64 0,.int .i64 0,.int .i64 0,.int .i64 0,.int .i64 0,.slice none 0 0,.slice none 0 0,.slice none 0 0,.slice none 0 0,.bool false,.int .i64 0,.int .i64 0,.slice none 0 0,.slice none 0 0,.bool false,.int .i64 0,.int .i64 0,.slice none 0 0,.slice none 0 0,.slice none 0 0,.int .i64 0]) (zl:=[.int .i64 0,.int .i64 0,.int .i64 0,.int .i64 0,.int .i64 0,.slice none 0 0,.slice none 0 0,.slice none 0 0,.slice none 0 0,.bool false,.int .i64 0,.int .i64 0,.slice none 0 0,.slice none 0 0,.bool false,.int .i64 0,.int .i64 0,.slice none 0 0,.slice none 0 0,.slice none 0 0,.int .i64 0]) zk (by unfold aE;kernel_rfl) Z Z (cells:=[_,_,_,_,_,_,_,_,_,_,_,_,_,_,_,_,_,_,_,_,_]) Z) ?_
   replace HG42:=HG42.keep k105 aC
   refine ah (cp (t:=uM) (et:=59) (bytes:=312) zk zq (aZ Z) ((sg (k:=5) i2 ⟨by decide,by decide⟩ (HG42.mono (F':=fun b=>n1≤b) fun b _ h=>by have:=h.1;omega))) ?_)
   rintro b9 w9 zb9 HO9 e9 z9
   have:=e9.size
   have zo_HO9:=fun (b:Nat) h=>HO9.own_lt (b:=b) h
   have htl2:((ms.take i).map fp ++ [fp r]).length=i + 1:=by rw [List.length_append,List.length_map,htl];rfl
   replace HOx:=(HOx.keep k105 (by intro i ho he;have he0:=he;have ho0:=ho;(try dsimp only [aP] at he);(try simp only [Value.ownBlock,Option.some.injEq,reduceCtorEq] at ho);(try simp only [Value.ownBlock,Option.some.injEq,reduceCtorEq] at he);first | exact he.elim | exact ho.elim | omega | (have:=zo_HOx _ ho0;omega)) (by intro i _ hi _ he;have he0:=he;have hi:=hi;have he:=he;(try dsimp only [aP,bj] at hi he);(try simp only [Value.ownBlock,Option.some.injEq,reduceCtorEq] at he);all_goals first | exact hi.elim | exact hi.1.elim | exact he.elim | omega | (rcases hi with hi | hi <;> omega) | (rcases he with he | he <;> omega))).ext e9
   have HOy:=HOx.mono (F':=fun b=>n2≤b) fun b _ h=>h.1
   have zo_HOy:=fun (b:Nat) h=>HOy.own_lt (b:=b) h
   have zo_HOy:=zo_HOx
   have hwr:fp r=(r.1.2.2.2.2.1,vV 5 r.1):=by rw [fp,if_pos h22]
   have HS32:bs uM w9 (fun b=>n1≤b) (.slice (some ⟨b9,0,none⟩) 1 1) [fp r]:=by rw [hwr];exact HO9.view.mono fun i _ hi=>hi.elim (fun h=>by omega) (fun h=>by have:=h.1;(try dsimp only at this);omega)
   refine ah (cv (et:=59) (bytes:=312) zk (bI Z) HOy (bI Z) HS32 (lf fun b hb hb2=>⟨by omega,fun ho=>by have:=zo_HOx _ ho;omega⟩) (by first | omega | (simp;done) | (simp;omega)) (by simp only [maxLen];first | omega | (simp;done) | (simp;omega)) zo ?_)
   rintro a9 n9 c9 w9 HO19 hn9 k9 h9 i9
   have:=k9.size
   replace E:=(E.step k105 bi).trans e9.keep
   replace HSm:=(HSm.keep k105 aC).ext e9
   replace EL1:=(EL1.step k105 bi).trans e9.keep
   replace HG2:=(HG2.keep k105 aC).ext e9
   replace HG3:=(HG3.keep k105 aC).ext e9
   replace HS19:=(HS19.keep k105 aC).ext e9
   replace HS22:=(HS22.keep k105 aC).ext e9
   obtain rfl:n9=i + 1:=hn9.trans htl2
   have htk:(ms.take i).map fp ++ [fp r]=(ms.take (i + 1)).map fp:=by rw [List.take_add_one,hx,List.map_append];rfl
   rw [htk] at HO19
   have zo_HO19:=fun (b:Nat) h=>HO19.own_lt (b:=b) h
   refine aa (cF Z) (ac (bE (U (O zd (aa (cn Z Z (by first | exact bn zo zo | rfl)) ?_)))))
   replace HB1:=(HB1.ext e9).keep k9 (by intro h;have he0:=h;(try dsimp only at h);(try simp only [Value.ownBlock,Option.some.injEq] at h);first | omega | (have:=(HOy).own_lt he0;omega) | (have:=zo_HOy _ he0;omega))
   replace HPq:=HPq.ext e9
   replace HB8:=HB8.ext e9
   replace HG42:=HG42.ext e9
   replace HB6:=HB6.ext e9
   replace E:=E.step k9 (by intro i hi he;have he0:=he;(try dsimp only [aP] at hi he ⊢);(try simp only [Value.ownBlock,Option.some.injEq] at he);first | exact he.elim | omega | exact he | (have:=(HOy).own_lt he0;omega) | (have:=zo_HOy _ he0;omega) | (have:=(HOy).own_lt he0;rcases hi with hi | hi <;> omega))
   replace HSm:=HSm.keep k9 (by intro i _ hi he;have he0:=he;(try dsimp only [aP,bj] at hi he);(try simp only [Value.ownBlock,Option.some.injEq] at he);first | exact hi.elim | exact he.elim | omega | (rcases hi with hi | hi <;> omega) | (rcases he with he | he <;> omega) | (have:=(HOy).own_lt he0;omega) | (have:=zo_HOy _ he0;omega) | (have:=(HOy).own_lt he0;rcases hi with hi | hi <;> omega))
   replace EL1:=EL1.step k9 (by intro i hi he;have he0:=he;(try dsimp only [aP] at hi he ⊢);(try simp only [Value.ownBlock,Option.some.injEq] at he);first | exact he.elim | omega | exact he | (have:=(HOy).own_lt he0;omega) | (have:=zo_HOy _ he0;omega) | (have:=(HOy).own_lt he0;rcases hi with hi | hi <;> omega))
   replace HO9:=HO9.keep k9 (by intro i ho he;have he0:=he;have ho0:=ho;(try dsimp only [aP] at he);(try simp only [Value.ownBlock,Option.some.injEq,reduceCtorEq] at ho);(try simp only [Value.ownBlock,Option.some.injEq,reduceCtorEq] at he);first | exact he.elim | exact ho.elim | omega | (have:=zo_HO9 _ ho0;omega) | (have:=(HOy).own_lt he0;omega) | (have:=zo_HOy _ he0;omega) | (have:=zo_HO9 _ ho0;have:=(HOy).own_lt he0;omega)) (by intro i _ hi _ he;have he0:=he;have hi:=hi;have he:=he;(try dsimp only [aP,bj] at hi he);(try simp only [Value.ownBlock,Option.some.injEq,reduceCtorEq] at he);all_goals first | exact hi.elim | exact hi.1.elim | exact he.elim | omega | (rcases hi with hi | hi <;> omega) | (rcases he with he | he <;> omega) | (have:=(HOy).own_lt he0;omega) | (have:=zo_HOy _ he0;omega) | (have:=(HOy).own_lt he0;rcases hi with hi | hi <;> omega))
   refine aa (aQ Z) (ac (U (⟨(i + 1,a9,c9),_,rfl,by (repeat (first | exact cD.of_over _ _ _ | refine cD.upd ?_ zq _ | refine cD.overs ?_ zq _)),⟨by first | rfl | exact congrArg (Value.int _) zo | (simp;done),by first | rfl | exact congrArg (Value.int _) zo | (simp;done),trivial⟩,⟨E,EL1,?_⟩,?_⟩)))
   ·
    exact ⟨by omega,HO19.mono fun b hb h=>⟨h,hb⟩⟩
   (dsimp only;omega)
  refine ar (U (O zd (aa (bP Z) (aa (aA 0 46 Z) (aa (aA 4 3 Z) (aa (ag zk Z (by first | exact HB6.pv 4 _ rfl | exact HB8.pv 4 _ rfl | exact HPq 4 _ rfl | exact aK HPq | exact HB1.pv 4 _ rfl | assumption)) ?_))))))
  refine aa (ap zk Z (by first | exact HB6.pv | exact HB8.pv | exact HPq | exact HB1.pv | assumption) Z) ?_
  refine aa (aV (pl:=[(0,1),(1,20)]) (z:=.agg #[.int .i64 0,.int .i64 0,.int .i64 0,.int .i64 0,.int .i64 0,.slice none 0 0,.slice none 0 0,.slice none 0 0,.slice none 0 0,.bool false,.int .i64 0,.int .i64 0,.slice none 0 0,.slice none 0 0,.bool false,.int .i64 0,.int .i64 0,.slice none 0 0,.slice none 0 0,.slice none 0 0,.int .i64 0]) (zl:=[.int .i64 0,.int .i64 0,.int .i64 0,.int .i64 0,.int .i64 0,.slice none 0 0,.slice none 0 0,.slice none 0 0,.slice none 0 0,.bool false,.int .i64 0,.int .i64 0,.slice none 0 0,.slice none 0 0,.bool false,.int .i64 0,.int .i64 0,.slice none 0 0,.slice none 0 0,.slice none 0 0,.int .i64 0]) zk (by unfold aE;kernel_rfl) Z Z (cells:=[_,_,_,_,_,_,_,_,_,_,_,_,_,_,_,_,_,_,_,_,_]) Z) ?_
  refine ah (cp (t:=uM) (et:=59) (bytes:=312) zk zq (aZ Z) ((sg (k:=3) i2 ⟨by decide,by decide⟩ (HG42.mono (F':=fun b=>n1≤b) fun b _ h=>by have:=h.1;omega))) ?_)
  rintro b9 w9 zb9 HO9 e9 z9
  have:=e9.size
  have zo_HO9:=fun (b:Nat) h=>HO9.own_lt (b:=b) h
  have htl2:((ms.take i).map fp ++ [fp r]).length=i + 1:=by rw [List.length_append,List.length_map,htl];rfl
  replace HOx:=HOx.ext e9
  have HOy:=HOx.mono (F':=fun b=>n2≤b) fun b _ h=>h.1
  have zo_HOy:=fun (b:Nat) h=>HOy.own_lt (b:=b) h
  have zo_HOy:=zo_HOx
  have hwr:fp r=(r.1.2.2.2.2.1,vV 3 r.1):=by rw [fp,if_neg (by rw [show r.2=false from h22];simp)]
  have HS32:bs uM w9 (fun b=>n1≤b) (.slice (some ⟨b9,0,none⟩) 1 1) [fp r]:=by rw [hwr];exact HO9.view.mono fun i _ hi=>hi.elim (fun h=>by omega) (fun h=>by have:=h.1;(try dsimp only at this);omega)
  refine ah (cv (et:=59) (bytes:=312) zk (bI Z) HOy (bI Z) HS32 (lf fun b hb hb2=>⟨by omega,fun ho=>by have:=zo_HOx _ ho;omega⟩) (by first | omega | (simp;done) | (simp;omega)) (by simp only [maxLen];first | omega | (simp;done) | (simp;omega)) zo ?_)
  rintro a9 n9 c9 w9 HO19 hn9 k9 h9 i9
  have:=k9.size
  obtain rfl:n9=i + 1:=hn9.trans htl2
  have htk:(ms.take i).map fp ++ [fp r]=(ms.take (i + 1)).map fp:=by rw [List.take_add_one,hx,List.map_append];rfl
  rw [htk] at HO19
  have zo_HO19:=fun (b:Nat) h=>HO19.own_lt (b:=b) h
  refine aa (cF Z) (ac (bE (U (O zd (aa (cn Z Z (by first | exact bn zo zo | rfl)) ?_)))))
  replace E:=(E.trans e9.keep).step k9 (by intro i hi he;have he0:=he;(try dsimp only [aP] at hi he ⊢);(try simp only [Value.ownBlock,Option.some.injEq] at he);first | exact he.elim | omega | exact he | (have:=(HOy).own_lt he0;omega) | (have:=zo_HOy _ he0;omega) | (have:=(HOy).own_lt he0;rcases hi with hi | hi <;> omega))
  replace HSm:=(HSm.ext e9).keep k9 (by intro i _ hi he;have he0:=he;(try dsimp only [aP,bj] at hi he);(try simp only [Value.ownBlock,Option.some.injEq] at he);first | exact hi.elim | exact he.elim | omega | (rcases hi with hi | hi <;> omega) | (rcases he with he | he <;> omega) | (have:=(HOy).own_lt he0;omega) | (have:=zo_HOy _ he0;omega) | (have:=(HOy).own_lt he0;rcases hi with hi | hi <;> omega))
  replace HB1:=(HB1.ext e9).keep k9 (by intro h;have he0:=h;(try dsimp only at h);(try simp only [Value.ownBlock,Option.some.injEq] at h);first | omega | (have:=(HOy).own_lt he0;omega) | (have:=zo_HOy _ he0;omega))
  replace EL1:=(EL1.trans e9.keep).step k9 (by intro i hi he;have he0:=he;(try dsimp only [aP] at hi he ⊢);(try simp only [Value.ownBlock,Option.some.injEq] at he);first | exact he.elim | omega | exact he | (have:=(HOy).own_lt he0;omega) | (have:=zo_HOy _ he0;omega) | (have:=(HOy).own_lt he0;rcases hi with hi | hi <;> omega))
  replace HPq:=HPq.ext e9
  replace HG2:=HG2.ext e9
  replace HG3:=HG3.ext e9
  replace HB8:=HB8.ext e9
  replace HG42:=HG42.ext e9
  replace HS19:=HS19.ext e9
  replace HS22:=HS22.ext e9
  replace HB6:=HB6.ext e9
  replace HO9:=HO9.keep k9 (by intro i ho he;have he0:=he;have ho0:=ho;(try dsimp only [aP] at he);(try simp only [Value.ownBlock,Option.some.injEq,reduceCtorEq] at ho);(try simp only [Value.ownBlock,Option.some.injEq,reduceCtorEq] at he);first | exact he.elim | exact ho.elim | omega | (have:=zo_HO9 _ ho0;omega) | (have:=(HOy).own_lt he0;omega) | (have:=zo_HOy _ he0;omega) | (have:=zo_HO9 _ ho0;have:=(HOy).own_lt he0;omega)) (by intro i _ hi _ he;have he0:=he;have hi:=hi;have he:=he;(try dsimp only [aP,bj] at hi he);(try simp only [Value.ownBlock,Option.some.injEq,reduceCtorEq] at he);all_goals first | exact hi.elim | exact hi.1.elim | exact he.elim | omega | (rcases hi with hi | hi <;> omega) | (rcases he with he | he <;> omega) | (have:=(HOy).own_lt he0;omega) | (have:=zo_HOy _ he0;omega) | (have:=(HOy).own_lt he0;rcases hi with hi | hi <;> omega))
  refine aa (aQ Z) (ac (U (⟨(i + 1,a9,c9),_,rfl,by (repeat (first | exact cD.of_over _ _ _ | refine cD.upd ?_ zq _ | refine cD.overs ?_ zq _)),⟨by first | rfl | exact congrArg (Value.int _) zo | (simp;done),by first | rfl | exact congrArg (Value.int _) zo | (simp;done),trivial⟩,⟨E,EL1,?_⟩,?_⟩)))
  ·
   exact ⟨by omega,HO19.mono fun b hb h=>⟨h,hb⟩⟩
  (dsimp only;omega)
 have hi:i=ms.length:=by have:=bf hlt;omega
 subst hi
 rw [List.take_length] at HOx
 refine cl (bm (bm (cV (U (V (O zd (aa (bP Z) (aa (cF Z) (ac ?_)))))))))
 refine U (aw (aU Z zq (bI Z) ?_))
 refine ⟨⟨_,_,by rw [List.length_map],?_⟩,E⟩
 exact HOx.view.mono fun b hb h=>by rcases h with h | h <;> omega
theorem hZ {w:World} {F:Nat→Prop} {v:Value} {s:it} {kd g:Int} {l:List UInt8} (HG1:aY iK w F v s) (ik:cH kd) (ig:cH g) (hl:l.length≤100) (hn:s.2.2.length≤1000) :
    ae Tryz.prog 10 #[v,.int .i64 kd,.string ⟨l.toArray⟩,.int .i64 g] w (fun o w'=>(∃ x,o=.tuple #[x,.int .i64 (ic s (kd,gm,jF,[],[],l,g)).2]∧aY iK w' (fun q=>w.heap.size≤q) x (ic s (kd,gm,jF,[],[],l,g)).1)∧aX w w'):=by
 obtain ⟨⟨e0,rs⟩,n,ms⟩:=s
 obtain ⟨a1,c1,a2,c2,rfl,HSr,HSm,ie,im⟩:=HG1.mt
 simp only at HSr HSm ie im hn
 refine aL 19 Tryz.func10 Z Z (by simp) ?_
 refine V ?_
 have E:=ao.refl (K:=aP) w
 replace HG1:=HG1.all
 refine O zd (ah (aS (aZ Z) ?_))
 rintro b4 w4 zb4 HB4 e4 z4
 have:=e4.size
 try simp only [Value.cells] at HB4
 refine ah (aD (z:=(.agg #[.int .i64 0,.slice none 0 0,.int .i64 0,.slice none 0 0])) (by unfold aE;kernel_rfl) ?_)
 rintro b8 w8 zb8 HB8 e8 z8
 have:=e8.size
 try simp only [Value.cells] at HB8
 replace HB4:=HB4.ext e8
 refine aa (ad Z) (ac (U (V (O zd (aa (ap zk Z (by first | exact HB8.pv | exact HB4.pv | assumption) Z) ?_)))))
 refine aa (aQ Z) (aa (be (t:=.string _) Z) (ah (u1 (et:=5) zk zk zk Z ((by simp only [maxLen];omega)) ?_)))
 rintro b13 c13 w13 zb13 HS13 e13 z13
 have:=e13.size
 refine aa (aQ Z) (aa (aV (pl:=[(0,1),(1,9),(10,6),(16,1),(17,1),(18,1),(19,1)]) (z:=.agg #[.int .i64 0,.int .i64 0,.int .i64 0,.int .i64 0,.slice none 0 0,.slice none 0 0,.slice none 0 0,.slice none 0 0,.bool false,.int .i64 0,.int .i64 0,.slice none 0 0,.slice none 0 0,.bool false,.int .i64 0,.int .i64 0,.slice none 0 0,.slice none 0 0,.slice none 0 0,.int .i64 0]) (zl:=[.int .i64 0,.int .i64 0,.int .i64 0,.int .i64 0,.slice none 0 0,.slice none 0 0,.slice none 0 0,.slice none 0 0,.bool false,.int .i64 0,.int .i64 0,.slice none 0 0,.slice none 0 0,.bool false,.int .i64 0,.int .i64 0,.slice none 0 0,.slice none 0 0,.slice none 0 0,.int .i64 0]) zk (by unfold aE;kernel_rfl) Z Z (cells:=[_,_,_,_,_,_,_,_,_,_,_,_,_,_,_,_,_,_,_,_]) Z) ?_)
 replace HG1:=((HG1.ext e4).ext e8).ext e13
 refine ah (aW zk (aZ Z) (aZ Z) (ae.mono (o9 (c:=(kd,gm,jF,[],[],l,g)) HG1 (aY.mkCm ik eI fL (bs.nil _ _ _) (bs.nil _ _ _) HS13 ig) hn) ?_))
 rintro _ w16 ⟨⟨y9,rfl,HG9⟩,e16⟩
 have:=e16.size
 obtain ⟨s9,hs9⟩:∃ x,x=(ic ((e0,rs),n,ms) (kd,gm,jF,[],[],l,g)).1:=⟨_,rfl⟩
 rw [← hs9] at HG9 ⊢
 replace HG9:=HG9.mono fun b hb h=>And.intro h hb
 obtain ⟨a5,c5,a6,c6,rfl,_⟩:=aY.mt HG9
 replace HB8:=(HB8.ext e13).ext e16
 refine aa (ai (t:=.agg _) Z Z) (aa (ai (t:=.int _ _) Z Z) (ah (aq (n:=4) Z Z (aZ Z) zk Z cT HB8 bV ?_)))
 rintro w101 HB8 k101 z101
 have:=k101.size
 try simp only [zS,Nat.zero_add,Nat.reduceAdd,List.drop_nil] at HB8
 refine aa (bO Z) (ac (U (aw (bL (n:=4) Z zq zq Z zk HB8.pv Z (bB Z) ?_))))
 replace E:=((((E.trans e4.keep).trans e8.keep).trans e13.keep).trans e16.keep).step k101 bi
 replace HG9:=HG9.keep k101 aC
 exact ⟨⟨_,rfl,HG9.mono fun b _ h=>by have:=h.1;omega⟩,E⟩
theorem kF {w:World} {F G:Nat→Prop} {v vc:Value} {s:it} {c:iq} (HG1:aY iK w F v s) (HG2:aY pe w G vc c) (hn:s.2.2.length≤1000) :
    ae Tryz.prog 11 #[v,vc] w (fun o w'=>(∃ x,o=.tuple #[x,.int .i64 (ic s c).2]∧aY iK w' (fun q=>w.heap.size≤q) x (ic s c).1)∧aX w w'):=by
  obtain ⟨⟨e0,rs⟩,n,ms⟩:=s
  exact o9 HG1 HG2 hn
theorem uy {w:World} {F:Nat→Prop} {v:Value} {s:it} (HG1:aY iK w F v s) (hn:s.2.2.length≤1000) :
    ae Tryz.prog 13 #[v] w (fun o w'=>(∃ a c,o=.slice a (ow s).length c∧bs uM w' (fun q=>w.heap.size≤q) o (ow s))∧aX w w'):=by
  obtain ⟨⟨e0,rs⟩,n,ms⟩:=s
  exact uz HG1 hn
def kS0:it:=((1,[([],[],false,1)]),1,[])
def vA:it:=((2,[([],[109],true,1),([109],[],false,1)]),1,[])
def rU:iJ:=(1,[109],[],false,1,2)
def kT:it:=((2,[([],[109],true,1),([109],[],false,1)]),2,[(rU,false)])
def kU:it:=((3,[([],[109],true,1),([109],[],false,2)]),2,[(rU,true)])
def kV:it:=((3,[([],[109],true,1),([109],[],false,2)]),2,[])
theorem kd1:ic kS0 (6,gm,jF,[],[],[109],0)=(vA,0):=by decide +kernel
theorem kd2:ic vA (8,gm,jF,[],[],[109],2)=(kT,0):=by decide +kernel
theorem kd3:ic kT (6,gm,jF,[],[],[112],0)=(f0,9):=by decide +kernel
theorem kd4:ic kT (7,gm,jF,[],[],[109],0)=(f0,9):=by decide +kernel
theorem kd5:ic kT (8,gm,jF,[],[],[109],3)=(f0,9):=by decide +kernel
theorem kd6:ic kT (10,gm,rU,[],[],[],0)=(f0,9):=by decide +kernel
theorem kd7:ic kT (9,gm,rU,[],[],[],0)=(kU,0):=by decide +kernel
theorem kd8:ic kU (9,gm,rU,[],[],[],0)=(f0,9):=by decide +kernel
theorem kd9:ic kU (10,gm,rU,[],[],[],0)=(kV,0):=by decide +kernel
theorem kd10:ic kV (7,gm,jF,[],[],[109],0)=(f0,9):=by decide +kernel
theorem kw:ow kU=[(1,vV 5 rU)]:=by decide +kernel
set_option maxHeartbeats 4000000 in
theorem hX {w:World}:ae Tryz.prog 5 #[] w (fun o w'=>o=.bool true∧aX w w'):=by
 refine aL 186 Tryz.func5 Z Z (by simp) ?_
 refine V ?_
 have E:=ao.refl (K:=aP) w
 refine O zd (aa (ad Z) (ac (U (V (O zd (aa (zaF Z) (ac (U (V ?_)))))))))
 refine O zd (aa (jA Z) (ah (j0 zk (ae.mono (rP) ?_))))
 rintro _ w1 ⟨HG0,e1⟩
 have:=e1.size
 replace HG0:aY iK _ _ _ kS0:=HG0.all
 obtain ⟨a1,c1,f1,g1,rfl,_⟩:=aY.mt HG0
 refine ah (hH zk Z (aZ Z) (bB Z) (vR Z) (bB Z) (ae.mono (hZ HG0 ⟨by decide,by decide⟩ ⟨by decide,by decide⟩ zq zq) ?_))
 rintro _ w2 ⟨⟨y2,rfl,HG1⟩,e2⟩
 have:=e2.size
 rw [kd1] at HG1 ⊢
 replace HG1:aY iK _ _ _ vA:=HG1.all
 obtain ⟨a2,c2,f2,g2,rfl,hsr2,hsm2,_⟩:=aY.mt HG1
 have HS2:bs dv _ _ (.slice a2 (vA).1.2.length c2) (vA).1.2:=hsr2
 have HSm2:bs eQ _ _ (.slice f2 (vA).2.2.length g2) (vA).2.2:=hsm2
 refine aa (dY Z) (aa (ai (t:=.agg _) Z Z) (aa (ai (t:=.int _ _) Z Z) (ah (aD (z:=(.agg #[.int .i64 0,.slice none 0 0,.int .i64 0,.slice none 0 0])) (by unfold aE;kernel_rfl) ?_))))
 rintro b32 w32 zb32 HB32 e32 z32
 have:=e32.size
 try simp only [Value.cells] at HB32
 replace HS2:=HS2.ext e32
 obtain ⟨q,cs,hq,hF,_,HPq,hr⟩:=HS2.el (k:=1) rfl
 subst hq
 obtain ⟨y1,z1,y2,z2,rfl,_⟩:=bN hr
 refine ah (aq (n:=4) Z Z (aZ Z) zk Z cT HB32 bV ?_)
 rintro w101 HB32 k101 z101
 have:=k101.size
 try simp only [zS,Nat.zero_add,Nat.reduceAdd,List.drop_nil] at HB32
 refine aa (bO Z) (ac (U (V (V (O zd (aa (aQ Z) (aa (bD Z Z) ?_)))))))
 refine aa (bH Z) (aj Z Z (fun hG=>aA 0 24 Z) ?_)
 refine aj Z Z (fun hG=>aA 1 22 (gd hG Z)) ?_
 replace HPq:=HPq.keep k101 (by intro h;(try dsimp only at h);(try simp only [au] at h);first | omega)
 refine aj Z Z (fun hG=>ag zk (gd hG Z) (by first | exact HPq 1 _ rfl | exact aK HPq | exact HB32.pv 1 _ rfl | assumption)) ?_
 refine aj Z Z (fun hG=>ba (et:=53) zk (gd hG Z)) ?_
 refine aj Z Z (fun hG=>bD (gd hG Z) Z) ?_
 refine aa (bF Z Z) ?_
 refine aa (bH Z) (aj Z Z (fun hG=>aA 0 24 Z) ?_)
 refine aj Z Z (fun hG=>aA 0 2 (gd hG Z)) ?_
 refine aj Z Z (fun hG=>ag zk (gd hG Z) (by first | exact HPq 0 _ rfl | exact HB32.pv 0 _ rfl | assumption)) ?_
 refine aj Z Z (fun hG=>bD (gd hG Z) Z) ?_
 refine aa (bF Z Z) ?_
 refine aa (bH Z) (aj Z Z (fun hG=>aA 0 24 Z) ?_)
 refine aj Z Z (fun hG=>aA 1 22 (gd hG Z)) ?_
 refine aj Z Z (fun hG=>ag zk (gd hG Z) (by first | exact HPq 1 _ rfl | exact aK HPq | exact HB32.pv 1 _ rfl | assumption)) ?_
 refine aj Z Z (fun hG=>aF (et:=53) (sz:=4) (k:=1) zk zk (gd hG Z) Z (by first | rfl | omega) zq) ?_
 refine aj Z Z (fun hG=>aA 3 3 (gd hG Z)) ?_
 refine aj Z Z (fun hG=>ag zk (gd hG Z) (by first | exact HPq 3 _ rfl | exact aK HPq | exact HB32.pv 3 _ rfl | assumption)) ?_
 refine aj Z Z (fun hG=>bD (gd hG Z) Z) ?_
 refine aa (bF Z Z) ?_
 replace E:=(((E.trans e1.keep).trans e2.keep).trans e32.keep).step k101 bi
 replace HG0:=HG0.ext e2
 replace HG1:=(HG1.ext e32).keep k101 aC
 refine ac (U (am Z Z (fun h44=>?_) (fun h44=>?_)))
 ·
  exact absurd h44 zq
 refine ar (U (V (O zd (aa (jA Z) (aa (ap zk Z (by first | exact HB32.pv | assumption) Z) ?_)))))
 refine ah (hH zk Z (aZ Z) (bB Z) (vR Z) (bB Z) (ae.mono (hZ HG1 ⟨by decide,by decide⟩ ⟨by decide,by decide⟩ zq zq) ?_))
 rintro _ w3 ⟨⟨y3,rfl,HG2⟩,e3⟩
 have:=e3.size
 rw [kd2] at HG2 ⊢
 replace HG2:aY iK _ _ _ kT:=HG2.all
 obtain ⟨a3,c3,f3,g3,rfl,hsr3,hsm3,_⟩:=aY.mt HG2
 have HS3:bs dv _ _ (.slice a3 (kT).1.2.length c3) (kT).1.2:=hsr3
 have HSm3:bs eQ _ _ (.slice f3 (kT).2.2.length g3) (kT).2.2:=hsm3
 refine aa (dY Z) (aa (ai (t:=.agg _) Z Z) (aa (ai (t:=.int _ _) Z Z) (ah (aD (z:=(.agg #[.int .i64 0,.slice none 0 0,.int .i64 0,.slice none 0 0])) (by unfold aE;kernel_rfl) ?_))))
 rintro b34 w34 zb34 HB34 e34 z34
 have:=e34.size
 try simp only [Value.cells] at HB34
 refine ah (aq (n:=4) Z Z (aZ Z) zk Z cT HB34 bV ?_)
 rintro w102 HB34 k102 z102
 have:=k102.size
 try simp only [zS,Nat.zero_add,Nat.reduceAdd,List.drop_nil] at HB34
 refine aa (bO Z) (ac (U (V (O zd (aa (jA Z) (aa (ap zk Z (by first | exact HB34.pv | assumption) Z) ?_))))))
 replace HG2:=(HG2.ext e34).keep k102 aC
 refine ah (hH zk Z (aZ Z) (bB Z) (vR Z) (bB Z) (ae.mono (hZ HG2 ⟨by decide,by decide⟩ ⟨by decide,by decide⟩ zq zq) ?_))
 replace HSm3:=(HSm3.ext e34).keep k102 aC
 rintro _ w4 ⟨⟨y4,rfl,HG3⟩,e4⟩
 have:=e4.size
 rw [kd3] at HG3 ⊢
 replace HG3:aY iK _ _ _ f0:=HG3.all
 obtain ⟨a4,c4,f4,g4,rfl,hsr4,hsm4,_⟩:=aY.mt HG3
 have HS4:bs dv _ _ (.slice a4 (f0).1.2.length c4) (f0).1.2:=hsr4
 have HSm4:bs eQ _ _ (.slice f4 (f0).2.2.length g4) (f0).2.2:=hsm4
 refine aa (dY Z) (aa (ai (t:=.agg _) Z Z) (aa (ai (t:=.int _ _) Z Z) (ah (aD (z:=(.agg #[.int .i64 0,.slice none 0 0,.int .i64 0,.slice none 0 0])) (by unfold aE;kernel_rfl) ?_))))
 rintro b35 w35 zb35 HB35 e35 z35
 have:=e35.size
 try simp only [Value.cells] at HB35
 refine ah (aq (n:=4) Z Z (aZ Z) zk Z cT HB35 bV ?_)
 rintro w103 HB35 k103 z103
 have:=k103.size
 try simp only [zS,Nat.zero_add,Nat.reduceAdd,List.drop_nil] at HB35
 replace HB34:=((HB34.ext e4).ext e35).keep k103 aH
 refine aa (bO Z) (ac (U (V (O zd (aa (jA Z) (aa (ap zk Z (by first | exact HB34.pv | assumption) Z) ?_))))))
 replace HG2:=((HG2.ext e4).ext e35).keep k103 aC
 refine ah (hH zk Z (aZ Z) (bB Z) (vR Z) (bB Z) (ae.mono (hZ HG2 ⟨by decide,by decide⟩ ⟨by decide,by decide⟩ zq zq) ?_))
 replace HSm3:=((HSm3.ext e4).ext e35).keep k103 aC
 rintro _ w5 ⟨⟨y5,rfl,HG3⟩,e5⟩
 have:=e5.size
 rw [kd4] at HG3 ⊢
 replace HG3:aY iK _ _ _ f0:=HG3.all
 obtain ⟨a5,c5,f5,g5,rfl,hsr5,hsm5,_⟩:=aY.mt HG3
 have HS5:bs dv _ _ (.slice a5 (f0).1.2.length c5) (f0).1.2:=hsr5
 have HSm5:bs eQ _ _ (.slice f5 (f0).2.2.length g5) (f0).2.2:=hsm5
 refine aa (dY Z) (aa (ai (t:=.agg _) Z Z) (aa (ai (t:=.int _ _) Z Z) (ah (aD (z:=(.agg #[.int .i64 0,.slice none 0 0,.int .i64 0,.slice none 0 0])) (by unfold aE;kernel_rfl) ?_))))
 rintro b36 w36 zb36 HB36 e36 z36
 have:=e36.size
 try simp only [Value.cells] at HB36
 refine ah (aq (n:=4) Z Z (aZ Z) zk Z cT HB36 bV ?_)
 rintro w104 HB36 k104 z104
 have:=k104.size
 try simp only [zS,Nat.zero_add,Nat.reduceAdd,List.drop_nil] at HB36
 replace HB34:=((HB34.ext e5).ext e36).keep k104 aH
 refine aa (bO Z) (ac (U (V (O zd (aa (jA Z) (aa (ap zk Z (by first | exact HB34.pv | assumption) Z) ?_))))))
 replace HG2:=((HG2.ext e5).ext e36).keep k104 aC
 refine ah (hH zk Z (aZ Z) (bB Z) (vR Z) (bB Z) (ae.mono (hZ HG2 ⟨by decide,by decide⟩ ⟨by decide,by decide⟩ zq zq) ?_))
 replace HSm3:=((HSm3.ext e5).ext e36).keep k104 aC
 rintro _ w6 ⟨⟨y6,rfl,HG3⟩,e6⟩
 have:=e6.size
 rw [kd5] at HG3 ⊢
 replace HG3:aY iK _ _ _ f0:=HG3.all
 obtain ⟨a6,c6,f6,g6,rfl,hsr6,hsm6,_⟩:=aY.mt HG3
 have HS6:bs dv _ _ (.slice a6 (f0).1.2.length c6) (f0).1.2:=hsr6
 have HSm6:bs eQ _ _ (.slice f6 (f0).2.2.length g6) (f0).2.2:=hsm6
 refine aa (dY Z) (aa (ai (t:=.agg _) Z Z) (aa (ai (t:=.int _ _) Z Z) (ah (aD (z:=(.agg #[.int .i64 0,.slice none 0 0,.int .i64 0,.slice none 0 0])) (by unfold aE;kernel_rfl) ?_))))
 rintro b37 w37 zb37 HB37 e37 z37
 have:=e37.size
 try simp only [Value.cells] at HB37
 refine ah (aq (n:=4) Z Z (aZ Z) zk Z cT HB37 bV ?_)
 rintro w105 HB37 k105 z105
 have:=k105.size
 try simp only [zS,Nat.zero_add,Nat.reduceAdd,List.drop_nil] at HB37
 refine aa (bO Z) (ac (U (V (V (O zd (aa (aQ Z) (aa (bD Z Z) ?_)))))))
 refine aa (bH Z) (aj Z Z (fun hG=>aA 3 25 Z) ?_)
 replace HB34:=((HB34.ext e6).ext e37).keep k105 aH
 refine aj Z Z (fun hG=>ag zk (gd hG Z) (by first | exact HB34.pv 3 _ rfl | assumption)) ?_
 refine aj Z Z (fun hG=>ba (et:=55) zk (gd hG Z)) ?_
 refine aj Z Z (fun hG=>bD (gd hG Z) Z) ?_
 refine aa (bF Z Z) ?_
 refine aa (bH Z) (aj Z Z (fun hG=>aQ Z) (aj Z Z (fun hG=>bD (gd hG Z) Z) ?_))
 refine aa (bF Z Z) ?_
 refine aa (bH Z) (aj Z Z (fun hG=>aQ Z) (aj Z Z (fun hG=>bD (gd hG Z) Z) ?_))
 refine aa (bF Z Z) ?_
 refine aa (bH Z) (aj Z Z (fun hG=>aQ Z) (aj Z Z (fun hG=>bD (gd hG Z) Z) ?_))
 refine aa (bF Z Z) ?_
 replace E:=(((((((((((E.trans e3.keep).trans e34.keep).step k102 bi).trans e4.keep).trans e35.keep).step k103 bi).trans e5.keep).trans e36.keep).step k104 bi).trans e6.keep).trans e37.keep).step k105 bi
 replace HG1:=HG1.ext e3
 replace HB32:=HB32.ext e3
 replace HG2:=((HG2.ext e6).ext e37).keep k105 aC
 replace HSm3:=((HSm3.ext e6).ext e37).keep k105 aC
 refine ac (U (am Z Z (fun h88=>?_) (fun h88=>?_)))
 ·
  exact absurd h88 zq
 obtain ⟨q2,cs2,hq2,hF2,_,HPm,hrm⟩:=HSm3.el (k:=0) rfl
 subst hq2
 have HGa:aY eQ _ _ _ (rU,false):=⟨cs2,rfl,hrm⟩
 obtain ⟨y3,z3,y4,z4,rfl,_⟩:=cR hrm
 have HGmv:=aY.maMv HGa
 replace HGmv:=HGmv.all
 refine ar (U (V (O zd (aa (aA 3 25 Z) (aa (ag zk Z (by first | exact HPm 3 _ rfl | exact aK HPm | exact HB34.pv 3 _ rfl | assumption)) ?_)))))
 refine aa (aF (et:=55) (sz:=7) (k:=0) zk zk Z Z (by first | rfl | omega) zq) ?_
 refine aa (aA 0 46 Z) (aa (ap zk Z (by first | exact (show Pv _ _ [_,_,_,_,_,_] from aN 0 6 HPm) | exact (show Pv _ _ [_,_,_,_,_,_] from aN 0 6 HB34.pv) | exact bg 0 HPm | exact bg 0 HB34.pv | exact HPm | assumption) Z) ?_)
 refine ah (aD (z:=(.agg #[.int .i64 0,.slice none 0 0,.slice none 0 0,.bool false,.int .i64 0,.int .i64 0])) (by unfold aE;kernel_rfl) ?_)
 rintro b41 w41 zb41 HB41 e41 z41
 have:=e41.size
 try simp only [Value.cells] at HB41
 refine ah (aq (n:=6) Z Z (aZ Z) zk Z cT HB41 bV ?_)
 rintro w106 HB41 k106 z106
 have:=k106.size
 try simp only [zS,Nat.zero_add,Nat.reduceAdd,List.drop_nil] at HB41
 replace HB34:=(HB34.ext e41).keep k106 aH
 replace HPm:=(HPm.ext e41).keep k106 (by intro h;(try dsimp only at h);(try simp only [au] at h);first | omega)
 refine ac (U (V (O zd (aa (ap zk Z (by first | exact HB41.pv | exact HPm | exact HB34.pv | assumption) Z) ?_))))
 refine aa (ap zk Z (by first | exact HB41.pv | exact HPm | exact HB34.pv | assumption) Z) ?_
 refine aa (aV (pl:=[(0,1),(1,9),(10,6),(16,1),(17,1),(18,1),(19,1)]) (z:=.agg #[.int .i64 0,.int .i64 0,.int .i64 0,.int .i64 0,.slice none 0 0,.slice none 0 0,.slice none 0 0,.slice none 0 0,.bool false,.int .i64 0,.int .i64 0,.slice none 0 0,.slice none 0 0,.bool false,.int .i64 0,.int .i64 0,.slice none 0 0,.slice none 0 0,.slice none 0 0,.int .i64 0]) (zl:=[.int .i64 0,.int .i64 0,.int .i64 0,.int .i64 0,.slice none 0 0,.slice none 0 0,.slice none 0 0,.slice none 0 0,.bool false,.int .i64 0,.int .i64 0,.slice none 0 0,.slice none 0 0,.bool false,.int .i64 0,.int .i64 0,.slice none 0 0,.slice none 0 0,.slice none 0 0,.int .i64 0]) zk (by unfold aE;kernel_rfl) Z Z (cells:=[_,_,_,_,_,_,_,_,_,_,_,_,_,_,_,_,_,_,_,_]) Z) ?_
 replace HG2:=(HG2.ext e41).keep k106 aC
 replace HGmv:=(HGmv.ext e41).keep k106 aC
 refine ah (aW zk (aZ Z) (aZ Z) (ae.mono (kF (c:=(10,gm,rU,[],[],[],0)) HG2 (aY.mkCm ⟨by decide,by decide⟩ eI HGmv (bs.nil _ _ _) (bs.nil _ _ _) (bs.nil _ _ _) ⟨by decide,by decide⟩) zq) ?_))
 rintro _ w7 ⟨⟨y7,rfl,HG3⟩,e7⟩
 have:=e7.size
 rw [kd6] at HG3 ⊢
 replace HG3:aY iK _ _ _ f0:=HG3.all
 obtain ⟨a7,c7,f7,g7,rfl,hsr7,hsm7,_⟩:=aY.mt HG3
 have HS7:bs dv _ _ (.slice a7 (f0).1.2.length c7) (f0).1.2:=hsr7
 have HSm7:bs eQ _ _ (.slice f7 (f0).2.2.length g7) (f0).2.2:=hsm7
 replace HB34:=HB34.ext e7
 replace HB41:=HB41.ext e7
 refine aa (dY Z) (aa (ai (t:=.agg _) Z Z) (aa (ai (t:=.int _ _) Z Z) (aa (bO Z) (ac (U (V (O zd (aa (ap zk Z (by first | exact HB41.pv | exact HB34.pv | assumption) Z) ?_))))))))
 refine aa (ap zk Z (by first | exact HB41.pv | exact HB34.pv | assumption) Z) ?_
 refine aa (aV (pl:=[(0,1),(1,9),(10,6),(16,1),(17,1),(18,1),(19,1)]) (z:=.agg #[.int .i64 0,.int .i64 0,.int .i64 0,.int .i64 0,.slice none 0 0,.slice none 0 0,.slice none 0 0,.slice none 0 0,.bool false,.int .i64 0,.int .i64 0,.slice none 0 0,.slice none 0 0,.bool false,.int .i64 0,.int .i64 0,.slice none 0 0,.slice none 0 0,.slice none 0 0,.int .i64 0]) (zl:=[.int .i64 0,.int .i64 0,.int .i64 0,.int .i64 0,.slice none 0 0,.slice none 0 0,.slice none 0 0,.slice none 0 0,.bool false,.int .i64 0,.int .i64 0,.slice none 0 0,.slice none 0 0,.bool false,.int .i64 0,.int .i64 0,.slice none 0 0,.slice none 0 0,.slice none 0 0,.int .i64 0]) zk (by unfold aE;kernel_rfl) Z Z (cells:=[_,_,_,_,_,_,_,_,_,_,_,_,_,_,_,_,_,_,_,_]) Z) ?_
 replace HG2:=HG2.ext e7
 replace HGmv:=HGmv.ext e7
 refine ah (aW zk (aZ Z) (aZ Z) (ae.mono (kF (c:=(9,gm,rU,[],[],[],0)) HG2 (aY.mkCm ⟨by decide,by decide⟩ eI HGmv (bs.nil _ _ _) (bs.nil _ _ _) (bs.nil _ _ _) ⟨by decide,by decide⟩) zq) ?_))
 rintro _ w8 ⟨⟨y8,rfl,HG4⟩,e8⟩
 have:=e8.size
 rw [kd7] at HG4 ⊢
 replace HG4:aY iK _ _ _ kU:=HG4.all
 obtain ⟨a8,c8,f8,g8,rfl,hsr8,hsm8,_⟩:=aY.mt HG4
 have HS8:bs dv _ _ (.slice a8 (kU).1.2.length c8) (kU).1.2:=hsr8
 have HSm8:bs eQ _ _ (.slice f8 (kU).2.2.length g8) (kU).2.2:=hsm8
 refine aa (dY Z) (aa (ai (t:=.agg _) Z Z) (aa (ai (t:=.int _ _) Z Z) (ah (aD (z:=(.agg #[.int .i64 0,.slice none 0 0,.int .i64 0,.slice none 0 0])) (by unfold aE;kernel_rfl) ?_))))
 rintro b42 w42 zb42 HB42 e42 z42
 have:=e42.size
 try simp only [Value.cells] at HB42
 refine ah (aq (n:=4) Z Z (aZ Z) zk Z cT HB42 bV ?_)
 rintro w107 HB42 k107 z107
 have:=k107.size
 try simp only [zS,Nat.zero_add,Nat.reduceAdd,List.drop_nil] at HB42
 replace HB41:=((HB41.ext e8).ext e42).keep k107 aH
 refine aa (bO Z) (ac (U (V (O zd (aa (ap zk Z (by first | exact HB42.pv | exact HB41.pv | assumption) Z) ?_)))))
 refine aa (ap zk Z (by first | exact HB42.pv | exact HB41.pv | assumption) Z) ?_
 refine aa (aV (pl:=[(0,1),(1,9),(10,6),(16,1),(17,1),(18,1),(19,1)]) (z:=.agg #[.int .i64 0,.int .i64 0,.int .i64 0,.int .i64 0,.slice none 0 0,.slice none 0 0,.slice none 0 0,.slice none 0 0,.bool false,.int .i64 0,.int .i64 0,.slice none 0 0,.slice none 0 0,.bool false,.int .i64 0,.int .i64 0,.slice none 0 0,.slice none 0 0,.slice none 0 0,.int .i64 0]) (zl:=[.int .i64 0,.int .i64 0,.int .i64 0,.int .i64 0,.slice none 0 0,.slice none 0 0,.slice none 0 0,.slice none 0 0,.bool false,.int .i64 0,.int .i64 0,.slice none 0 0,.slice none 0 0,.bool false,.int .i64 0,.int .i64 0,.slice none 0 0,.slice none 0 0,.slice none 0 0,.int .i64 0]) zk (by unfold aE;kernel_rfl) Z Z (cells:=[_,_,_,_,_,_,_,_,_,_,_,_,_,_,_,_,_,_,_,_]) Z) ?_
 replace HGmv:=((HGmv.ext e8).ext e42).keep k107 aC
 replace HG4:=(HG4.ext e42).keep k107 aC
 refine ah (aW zk (aZ Z) (aZ Z) (ae.mono (kF (c:=(9,gm,rU,[],[],[],0)) HG4 (aY.mkCm ⟨by decide,by decide⟩ eI HGmv (bs.nil _ _ _) (bs.nil _ _ _) (bs.nil _ _ _) ⟨by decide,by decide⟩) zq) ?_))
 replace HS8:=(HS8.ext e42).keep k107 aC
 replace HSm8:=(HSm8.ext e42).keep k107 aC
 rintro _ w9 ⟨⟨y9,rfl,HG3⟩,e9⟩
 have:=e9.size
 rw [kd8] at HG3 ⊢
 replace HG3:aY iK _ _ _ f0:=HG3.all
 obtain ⟨a9,c9,f9,g9,rfl,hsr9,hsm9,_⟩:=aY.mt HG3
 have HS9:bs dv _ _ (.slice a9 (f0).1.2.length c9) (f0).1.2:=hsr9
 have HSm9:bs eQ _ _ (.slice f9 (f0).2.2.length g9) (f0).2.2:=hsm9
 replace HB41:=HB41.ext e9
 replace HB42:=HB42.ext e9
 refine aa (dY Z) (aa (ai (t:=.agg _) Z Z) (aa (ai (t:=.int _ _) Z Z) (aa (bO Z) (ac (U (V (O zd (aa (ap zk Z (by first | exact HB42.pv | exact HB41.pv | assumption) Z) ?_))))))))
 replace HG4:=HG4.ext e9
 refine ah (av zk (aZ Z) (ae.mono (uy HG4 zq) ?_))
 rintro _ w13 ⟨⟨a13,c13,rfl,hW⟩,e13⟩
 have:=e13.size
 rw [kw] at hW ⊢
 have HS13:=hW.mono (F':=fun b=>b < w13.heap.size) fun b hb _=>hb
 replace HS8:=(HS8.ext e9).ext e13
 obtain ⟨q3,cs3,hq3,hF3,_,HPu,hru⟩:=HS8.el (k:=1) rfl
 subst hq3
 obtain ⟨y5,z5,y6,z6,rfl,_⟩:=bN hru
 obtain ⟨q5,cs5,hq5,hF5,_,HPw,hrw⟩:=HS13.el (k:=0) rfl
 subst hq5
 obtain ⟨_,cc,rfl,⟨rfl,_⟩,hrc⟩:=hrw
 obtain ⟨_,cc2,rfl,⟨rfl,_⟩,_⟩:=hrc
 refine aa (cF Z) (ac (U (V (V (O zd (aa (aQ Z) (aa (bD Z Z) ?_)))))))
 refine aa (bH Z) (aj Z Z (fun hG=>aQ Z) (aj Z Z (fun hG=>bD (gd hG Z) Z) ?_))
 refine aa (bF Z Z) ?_
 refine aa (bH Z) (aj Z Z (fun hG=>aQ Z) (aj Z Z (fun hG=>bD (gd hG Z) Z) ?_))
 refine aa (bF Z Z) ?_
 refine aa (bH Z) (aj Z Z (fun hG=>aA 0 24 Z) ?_)
 refine aj Z Z (fun hG=>aA 1 22 (gd hG Z)) ?_
 replace HB41:=HB41.ext e13
 replace HB42:=HB42.ext e13
 refine aj Z Z (fun hG=>ag zk (gd hG Z) (by first | exact HPw 1 _ rfl | exact aK HPw | exact HPu 1 _ rfl | exact aK HPu | exact HB42.pv 1 _ rfl | exact HB41.pv 1 _ rfl | assumption)) ?_
 refine aj Z Z (fun hG=>aF (et:=53) (sz:=4) (k:=1) zk zk (gd hG Z) Z (by first | rfl | omega) zq) ?_
 refine aj Z Z (fun hG=>aA 3 3 (gd hG Z)) ?_
 refine aj Z Z (fun hG=>ag zk (gd hG Z) (by first | exact HPw 3 _ rfl | exact aK HPw | exact HPu 3 _ rfl | exact aK HPu | exact HB42.pv 3 _ rfl | exact HB41.pv 3 _ rfl | assumption)) ?_
 refine aj Z Z (fun hG=>bD (gd hG Z) Z) ?_
 refine aa (bF Z Z) ?_
 refine aa (bH Z) (aj Z Z (fun hG=>bP Z) (aj Z Z (fun hG=>ba (et:=59) zk (gd hG Z)) ?_))
 refine aj Z Z (fun hG=>bD (gd hG Z) Z) ?_
 refine aa (bF Z Z) ?_
 refine aa (bH Z) (aj Z Z (fun hG=>bP Z) (aj Z Z (fun hG=>aF (et:=59) (sz:=21) (k:=0) zk zk (gd hG Z) Z (by first | rfl | omega) zq) ?_))
 refine aj Z Z (fun hG=>aA 0 3 (gd hG Z)) ?_
 refine aj Z Z (fun hG=>ag zk (gd hG Z) (by first | exact HPw 0 _ rfl | exact HPu 0 _ rfl | exact HB42.pv 0 _ rfl | exact HB41.pv 0 _ rfl | assumption)) ?_
 refine aj Z Z (fun hG=>bD (gd hG Z) Z) ?_
 refine aa (bF Z Z) ?_
 refine aa (bH Z) (aj Z Z (fun hG=>bP Z) (aj Z Z (fun hG=>aF (et:=59) (sz:=21) (k:=0) zk zk (gd hG Z) Z (by first | rfl | omega) zq) ?_))
 refine aj Z Z (fun hG=>aA 1 49 (gd hG Z)) ?_
 refine aj Z Z (fun hG=>aA 0 38 (gd hG Z)) ?_
 refine aj Z Z (fun hG=>ag zk (gd hG Z) (by first | exact HPw 1 _ rfl | exact aK HPw | exact HPu 1 _ rfl | exact aK HPu | exact HB42.pv 1 _ rfl | exact HB41.pv 1 _ rfl | exact HPw 0 _ rfl | exact HPu 0 _ rfl | exact HB42.pv 0 _ rfl | exact HB41.pv 0 _ rfl | assumption)) ?_
 refine aj Z Z (fun hG=>bD (gd hG Z) Z) ?_
 refine aa (bF Z Z) ?_
 replace E:=(((((((E.trans e41.keep).step k106 bi).trans e7.keep).trans e8.keep).trans e42.keep).step k107 bi).trans e9.keep).trans e13.keep
 replace HPm:=HPm.ext e7
 replace HG2:=HG2.ext e8
 replace HB34:=HB34.ext e8
 replace HGmv:=(HGmv.ext e9).ext e13
 replace HSm8:=(HSm8.ext e9).ext e13
 replace HG4:=HG4.ext e13
 refine ac (U (am Z Z (fun h155=>?_) (fun h155=>?_)))
 ·
  exact absurd h155 zq
 refine ar (U (V (O zd (aa (ap zk Z (by first | exact HB42.pv | exact HB41.pv | assumption) Z) ?_))))
 refine aa (ap zk Z (by first | exact HB42.pv | exact HB41.pv | assumption) Z) ?_
 refine aa (aV (pl:=[(0,1),(1,9),(10,6),(16,1),(17,1),(18,1),(19,1)]) (z:=.agg #[.int .i64 0,.int .i64 0,.int .i64 0,.int .i64 0,.slice none 0 0,.slice none 0 0,.slice none 0 0,.slice none 0 0,.bool false,.int .i64 0,.int .i64 0,.slice none 0 0,.slice none 0 0,.bool false,.int .i64 0,.int .i64 0,.slice none 0 0,.slice none 0 0,.slice none 0 0,.int .i64 0]) (zl:=[.int .i64 0,.int .i64 0,.int .i64 0,.int .i64 0,.slice none 0 0,.slice none 0 0,.slice none 0 0,.slice none 0 0,.bool false,.int .i64 0,.int .i64 0,.slice none 0 0,.slice none 0 0,.bool false,.int .i64 0,.int .i64 0,.slice none 0 0,.slice none 0 0,.slice none 0 0,.int .i64 0]) zk (by unfold aE;kernel_rfl) Z Z (cells:=[_,_,_,_,_,_,_,_,_,_,_,_,_,_,_,_,_,_,_,_]) Z) ?_
 refine ah (aW zk (aZ Z) (aZ Z) (ae.mono (kF (c:=(10,gm,rU,[],[],[],0)) HG4 (aY.mkCm ⟨by decide,by decide⟩ eI HGmv (bs.nil _ _ _) (bs.nil _ _ _) (bs.nil _ _ _) ⟨by decide,by decide⟩) zq) ?_))
 rintro _ w10 ⟨⟨y10,rfl,HG5⟩,e10⟩
 have:=e10.size
 rw [kd9] at HG5 ⊢
 replace HG5:aY iK _ _ _ kV:=HG5.all
 obtain ⟨a10,c10,f10,g10,rfl,hsr10,hsm10,_⟩:=aY.mt HG5
 have HS10:bs dv _ _ (.slice a10 (kV).1.2.length c10) (kV).1.2:=hsr10
 have HSm10:bs eQ _ _ (.slice f10 (kV).2.2.length g10) (kV).2.2:=hsm10
 refine aa (dY Z) (aa (ai (t:=.agg _) Z Z) (aa (ai (t:=.int _ _) Z Z) (ah (aD (z:=(.agg #[.int .i64 0,.slice none 0 0,.int .i64 0,.slice none 0 0])) (by unfold aE;kernel_rfl) ?_))))
 rintro b44 w44 zb44 HB44 e44 z44
 have:=e44.size
 try simp only [Value.cells] at HB44
 refine ah (aq (n:=4) Z Z (aZ Z) zk Z cT HB44 bV ?_)
 rintro w108 HB44 k108 z108
 have:=k108.size
 try simp only [zS,Nat.zero_add,Nat.reduceAdd,List.drop_nil] at HB44
 replace HB41:=((HB41.ext e10).ext e44).keep k108 aH
 replace HB42:=((HB42.ext e10).ext e44).keep k108 aH
 refine aa (bO Z) (ac (U (V (O zd (aa (jA Z) (aa (ap zk Z (by first | exact HB44.pv | exact HB42.pv | exact HB41.pv | assumption) Z) ?_))))))
 replace HG5:=(HG5.ext e44).keep k108 aC
 refine ah (hH zk Z (aZ Z) (bB Z) (vR Z) (bB Z) (ae.mono (hZ HG5 ⟨by decide,by decide⟩ ⟨by decide,by decide⟩ zq zq) ?_))
 replace HGmv:=((HGmv.ext e10).ext e44).keep k108 aC
 replace HSm8:=((HSm8.ext e10).ext e44).keep k108 aC
 replace HSm10:=(HSm10.ext e44).keep k108 aC
 rintro _ w11 ⟨⟨y11,rfl,HG6⟩,e11⟩
 have:=e11.size
 rw [kd10] at HG6 ⊢
 replace HG6:aY iK _ _ _ f0:=HG6.all
 obtain ⟨a11,c11,f11,g11,rfl,hsr11,hsm11,_⟩:=aY.mt HG6
 have HS11:bs dv _ _ (.slice a11 (f0).1.2.length c11) (f0).1.2:=hsr11
 have HSm11:bs eQ _ _ (.slice f11 (f0).2.2.length g11) (f0).2.2:=hsm11
 refine aa (dY Z) (aa (ai (t:=.agg _) Z Z) (aa (ai (t:=.int _ _) Z Z) (aa (bO Z) (ac (U (V (O zd (aa (aQ Z) (aa (aJ Z Z) ?_)))))))))
 refine aa (bH Z) (aj Z Z (fun hG=>aA 3 25 Z) ?_)
 replace HB41:=HB41.ext e11
 replace HB42:=HB42.ext e11
 replace HB44:=HB44.ext e11
 refine aj Z Z (fun hG=>ag zk (gd hG Z) (by first | exact HB44.pv 3 _ rfl | exact HB42.pv 3 _ rfl | exact HB41.pv 3 _ rfl | assumption)) ?_
 refine aj Z Z (fun hG=>ba (et:=55) zk (gd hG Z)) ?_
 refine aj Z Z (fun hG=>aJ (gd hG Z) Z) ?_
 refine aa (bu Z Z) ?_
 refine aa (bH Z) (aj Z Z (fun hG=>aA 2 2 Z) ?_)
 refine aj Z Z (fun hG=>ag zk (gd hG Z) (by first | exact HB44.pv 2 _ rfl | exact HB42.pv 2 _ rfl | exact HB41.pv 2 _ rfl | assumption)) ?_
 refine aj Z Z (fun hG=>aJ (gd hG Z) Z) ?_
 refine aa (bu Z Z) ?_
 refine aa (bH Z) (aj Z Z (fun hG=>aQ Z) (aj Z Z (fun hG=>aJ (gd hG Z) Z) ?_))
 refine aa (bu Z Z) ?_
 refine aa (dl Z) (ac (U (aw (aU Z zq (cE Z) ?_))))
 replace E:=(((E.trans e10.keep).trans e44.keep).step k108 bi).trans e11.keep
 exact ⟨rfl,E⟩
end Go.Proofs.YteehplloacefmaaGreat
