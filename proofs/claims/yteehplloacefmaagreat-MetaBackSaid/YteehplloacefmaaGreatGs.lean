/- Steps and lemmas for the walks. -/
import Derived.Test.YteehplloacefmaaGreatR4
import Derived.Test.YteehplloacefmaaGreatGe
set_option linter.unusedVariables false
set_option linter.unusedSimpArgs false
set_option maxRecDepth 100000
namespace Go.Proofs.YteehplloacefmaaGreat
open Go.Vc
theorem o8 {w0:World} {b:Nat} {T:TypeId} {a:Option Addr} {c:Nat} {F K:Nat→Prop} {xs:List cO} {css:Nat→List Value} (hmx:xs.length≤9223372036854775807)
    (hcss:∀ i x,xs[i]? = some x→∃ q,a=some q∧F q.block∧q.block < w0.heap.size∧Pv w0 (q.add (i * dv.sz)) (css i)∧dv.rep w0 F (css i) x) (hb:dh w0 b [.slice a xs.length c] T) (hKb:¬ K b) (hKF:∀ i,F i→¬ K i) :
    SeqStopsK Fence.wide 1 Tryz.prog 130 #[.pointer (some ⟨b,0,none⟩)] (fun x:Fin xs.length=>([.int .i64 (x.val:Int),.agg (css x.val).toArray]:List Value).toArray) (ao K) (fun ys=>ys=List.finRange xs.length) (fun pre=>pre <+: List.finRange xs.length) xs.length w0:=by
 refine sn (encs:=fun x:Fin xs.length=>[.int .i64 (x.val:Int),.agg (css x.val).toArray]) fun l J Jx W hx hJ hJx hY h0=>?_
 refine ae.mono (R:=fun _ W'=>J (List.finRange xs.length) W'∨∃ pre,pre <+: List.finRange xs.length∧Jx pre W') ?_ fun _ _ h=>h
 show ae _ _ (#[.func (.yield l) #[] #[],.pointer (some ⟨b,0,none⟩)]) W _
 refine aL 18 Tryz.func130 Z Z (by simp) ?_
 refine V (O zd (aa (ag zk Z ((hb.ext hx).cell Z)) ?_))
 refine aa (ba (et:=53) zk Z) ?_
 refine aa (be Z) (ac (U (aO (cy (τ:=Nat) [3,4,7,8,9,10,11,12,13,14,15,16,17] (fun i=>[(7,.int .i64 i)]) (fun i w=>i≤xs.length∧ao K w0 w∧J ((List.finRange xs.length).take i) w) (fun i=>xs.length - i) 0 (by exact ⟨rfl,trivial⟩) (by exact ⟨Nat.zero_le _,hx.keep,by rw [List.take_zero];exact h0⟩) ?_))))
 rintro i w1 j ⟨h1,k1,hj⟩
 refine V (O zd (aa (bw Z Z) ?_))
 refine ac (U (V (am Z Z (fun hlt=>?_) (fun hlt=>?_))))
 ·
  have hlt:i < xs.length:=by have:=bl hlt;omega
  obtain ⟨x,hx1,_⟩:=eC hlt
  obtain ⟨q,rfl,hF,hql,hp,hr⟩:=hcss i x hx1
  obtain ⟨a1,c1,a2,c2,hcs,_,_,_⟩:=bN hr
  refine ar (U (V (aO (V (O zd (aa (aQ Z) (aa (aF (et:=53) (sz:=4) (k:=i) zk zk Z Z (by first | rfl | omega) (hlt)) ?_)))))))
  refine aa (ap (n:=4) zk Z (hp.keep k1 (by rw [au];exact hKF _ hF)) (dv.len hr)) ?_
  refine ah (aD (z:=(.agg #[.slice none 0 0,.slice none 0 0,.bool false,.int .i64 0])) (by unfold aE;kernel_rfl) ?_)
  rintro b2 w2 zb2 hb2 e2 z2
  have:=e2.size
  refine aa (bO Z) (ah (aq (n:=4) Z Z (aZ Z) zk (dv.len hr) (dv.one hr) hb2 bV ?_))
  rintro w3 hb3 k3 z3
  have:=k3.size
  rw [show (css i).toArray.toList=css i from rfl,jr (by rw [hcs];rfl)] at hb3
  have e3:aX w1 w3:=e2.step k3 (by intro i hi he;dsimp only [aP] at he ⊢;omega)
  refine ac (U (V (O zd (aa (jA Z) (aa (aQ Z) (aa (ap (n:=4) zk Z (hb3.pv) (dv.len hr)) ?_))))))
  refine ah (qS Z (bB Z) (aZ Z) (YieldAt.mono (hY ((List.finRange xs.length).take i) ⟨i,hlt⟩ w3 (hJ _ _ _ e3 hj) (by simp;omega)) ?_))
  rintro en w4 ⟨v,rfl,hv⟩
  refine ⟨v,rfl,?_⟩
  obtain ⟨bb,rfl,hb1,hb2⟩:=yb hv
  refine aa (cg Z) ?_
  refine ac (U (am Z Z (fun hc=>?_) (fun hc=>?_)))
  ·
   refine aw (bz (ay (ay (bz (vb Z ?_)))))
   obtain rfl:bb=false:=by cases bb <;> simp_all
   exact .inr ⟨_,by rw [← fS hlt];exact List.take_prefix _ _,hb2 rfl⟩
  obtain rfl:bb=true:=by cases bb <;> simp_all
  obtain ⟨hj4,k4⟩:=hb1 rfl
  refine ar (bE (U (O zd (aa (cn Z Z (by first | exact bn zo zo | rfl)) ?_))))
  refine aa (aQ Z) (ac (U (⟨i + 1,_,rfl,by (repeat (first | exact cD.of_over _ _ _ | refine cD.upd ?_ zq _ | refine cD.overs ?_ zq _)),⟨by first | rfl | exact congrArg (Value.int _) zo | (simp;done),trivial⟩,?_,?_⟩)))
  ·
   exact ⟨by omega,k1.trans ((aX.keep e3).trans k4),by rw [fS hlt];exact hj4⟩
  dsimp only;omega
 refine cl (bm (bm (cV (ti Z ?_))))
 exact .inl (by rw [iA (by have:=bf hlt;omega)] at hj;exact hj)
end Go.Proofs.YteehplloacefmaaGreat
namespace Go.Proofs.YteehplloacefmaaGreat
open Go.Vc
theorem wK {w:World} {v:Value}:ae Tryz.prog 120 #[v] w (fun o w'=>∃ b,b=w.heap.size∧o=.func (.func 130) #[] #[.pointer (some ⟨b,0,none⟩)]∧dh w' b v.cells.toList 22∧w'.heap.size=b + 1∧aX w w'):=by
  refine aL 4 Tryz.func120 Z Z (by simp) ?_
  refine V (O zd (ah (aS Z ?_)))
  rintro b1 w1 zb1 hb1 e1 z1
  have:=e1.size
  refine aa (ad Z) (ac (U (V (O zd (aa (cC (by simp [ev];rfl) (by simp [ev];rfl)) ?_)))))
  refine aa (ad Z) (ac (U (aw (ke Z zq ?_))))
  exact ⟨b1,zb1,rfl,hb1,z1,e1⟩
theorem te {w:World} {F:Nat→Prop} {v:Value} {e:Int} {rs:List cO} {fn:Nat} {cap:Array Value} {p:cO→Bool} (HG1:aY li w F v (e,rs)) (hb:dj Tryz.prog fn=true)
    (his:∀ W G u r,aX w W→aY dv W G u r→ae Tryz.prog fn (#[u] ++ cap) W (fun o W'=>o=.bool (p r)∧aX W W')) :
    ae Tryz.prog 79 #[v,.func (.func fn) #[] cap] w (fun o w'=>o=.int .i64 (dP (dZ (e,rs) p))∧aX w w'):=by
 obtain ⟨a,c,rfl,HSr,he⟩:=HG1.mp
 simp only at HSr he
 have hmx:=HSr.len_max
 refine th 22 Tryz.func79 Z Z (by simp) ?_
 refine V ?_
 have E:=ao.refl (K:=aP) w
 replace HSr:=HSr.all
 replace HG1:=HG1.all
 refine O zd (ah (aS (aZ Z) ?_))
 rintro b1 w1 zb1 HB1 e1 z1
 have:=e1.size
 try simp only [Value.cells] at HB1
 refine ah (aS (show _=(Value.func _ _ _) from Z) ?_)
 rintro b2 w2 zb2 HB2 e2 z2
 have:=e2.size
 try simp only [Value.cells] at HB2
 refine aa (ad Z) (ac (U (qI (V (O zd (ah (aD (z:=(.int .i64 0)) (by unfold aE;kernel_rfl) ?_)))))))
 rintro b3 w3 zb3 HB3 e3 z3
 have:=e3.size
 try simp only [Value.cells] at HB3
 refine ah (aR Z Z (bB Z) Z zk HB3 bV ?_)
 rintro w101 HB3 k101 z101
 have:=k101.size
 try simp only [zS,Nat.zero_add,Nat.reduceAdd,List.drop_nil] at HB3
 replace HB1:=((HB1.ext e2).ext e3).keep k101 aH
 replace HB2:=(HB2.ext e3).keep k101 aH
 refine ac (U (V (V (O zd (aa (ap zk Z (by first | exact HB3.pv | exact HB2.pv | exact HB1.pv | assumption) Z) ?_)))))
 replace HG1:=(((HG1.ext e1).ext e2).ext e3).keep k101 aC
 refine ah (av zk (aZ Z) (ae.mono (mL HG1) ?_))
 replace HSr:=(((HSr.ext e1).ext e2).ext e3).keep k101 aC
 rintro _ w102 ⟨rfl,e102⟩
 have:=e102.size
 refine aa (cg Z) ?_
 replace E:=((((E.trans e1.keep).trans e2.keep).trans e3.keep).step k101 bi).trans e102.keep
 replace HSr:=HSr.ext e102
 replace HG1:=HG1.ext e102
 replace HB1:=HB1.ext e102
 replace HB2:=HB2.ext e102
 replace HB3:=HB3.ext e102
 refine ac (U (am Z Z (fun hc=>?_) (fun hc=>?_)))
 ·
  refine V (O zd (aa (ag zk Z (by first | exact HB3.cell rfl | exact HB2.cell rfl | exact HB1.cell rfl | assumption)) ?_))
  refine aa (bO Z) (ac (U (aw (ay (lW (u7 Z zq (bB Z) ?_))))))
  have h:cY (e,rs)=false:=by simpa using hc
  exact ⟨by rw [dZ,h];rfl,E⟩
 have hm:cY (e,rs)=true:=by simpa using hc
 refine ar (U (V (qJ (U (V (V (O zd (aa (aA 1 22 Z) (aa (ag zk Z (by first | exact HB3.pv 1 _ rfl | exact HB2.pv 1 _ rfl | exact HB1.pv 1 _ rfl | assumption)) ?_)))))))))
 refine ah (av zk (bI Z) (ae.mono (wK) ?_))
 rintro _ w4 ⟨b4,hb4,rfl,HB4,z4,e4⟩
 have:=e4.size
 refine ac (U (aO ?_))
 simp only [Value.cells] at HB4
 replace HSr:=HSr.ext e4
 obtain ⟨css,hcss⟩:=HSr.pick
 replace E:=E.trans e4.keep
 replace HG1:=HG1.ext e4
 replace HB1:=HB1.ext e4
 replace HB2:=HB2.ext e4
 replace HB3:=HB3.ext e4
 refine oY (N:=22) Z (show _=(Value.func _ _ _) from Z) zk zq E (fun x:Fin rs.length=>[.int .i64 (x.val:Int),.agg (css x.val).toArray]) (fun _=>Z) (fun i=>i=b3) (fun i h=>by have h:=h;(try dsimp only at h);omega) (o8 (F:=fun b=>b < w.heap.size) hmx hcss HB4 zo (fun i h=>by omega)) (fun pre W=>dh W b3 [.int .i64 (-1)] 3∧(∀ x ∈ pre,p (rs.get x)=false)) (fun c pre W=>c=.exit 0∧∃ (q:List (Fin rs.length)) (x:Fin rs.length),pre=q ++ [x]∧(∀ y ∈ q,p (rs.get y)=false)∧p (rs.get x)=true∧dh W b3 [.int .i64 (x.val:Int)] 3) (fun s W W' t h=>⟨h.1.turn t,h.2⟩) (fun c s W W' t h=>by obtain ⟨h1,q,x,h2,h3,h4,h5⟩:=h;exact ⟨h1,q,x,h2,h3,h4,h5.turn t⟩) (⟨HB3,by simp⟩) (fun x e1 W=>∃ b7,jI [(3,.pointer (some ⟨b2,0,none⟩)),(5,.pointer (some ⟨b3,0,none⟩)),(6,.int .i64 (x.val:Int)),(7,.pointer (some ⟨b7,0,none⟩))] e1∧dh W b7 (css x.val) 53∧b3 < b7) (fun x e1 W W' t h=>by obtain ⟨b7,h1,h2,h3⟩:=h;exact ⟨b7,h1,h2.turn t,h3⟩) ?_ ?_ ?_ ?_
 ·
  rintro l pre x w103 E EK ⟨HB5,hp⟩
  have:=EK.size
  have:=E.size
  have EL1:=ao.refl (K:=aP) w103
  refine V ?_
  replace HSr:=HSr.keep EK aC
  replace HG1:=HG1.keep EK aC
  replace HB1:=HB1.keep EK aH
  replace HB2:=HB2.keep EK aH
  replace HB4:=HB4.keep EK aH
  obtain ⟨q,_,_,_,_,hr⟩:=hcss x.val (rs.get x) (by simp)
  obtain ⟨a1,c1,a2,c2,hcs,_,_,_⟩:=bN hr
  refine O zd (aa (bO Z) (ac (U (O zd (ah (aD (z:=(.agg #[.slice none 0 0,.slice none 0 0,.bool false,.int .i64 0])) (by unfold aE;kernel_rfl) ?_))))))
  rintro b7 w7 zb7 HB7 e7 z7
  have:=e7.size
  try simp only [Value.cells] at HB7
  refine ah (aq (n:=4) Z Z (aZ Z) zk (dv.len hr) (dv.one hr) HB7 bV ?_)
  rintro w8 HB8 k8 z8
  have:=k8.size
  rw [show (css x.val).toArray.toList=css x.val from rfl,jr (by rw [hcs];rfl)] at HB8
  refine ac (U ?_)
  replace HSr:=(HSr.ext e7).keep k8 aC
  replace HG1:=(HG1.ext e7).keep k8 aC
  replace HB1:=(HB1.ext e7).keep k8 aH
  replace HB2:=(HB2.ext e7).keep k8 aH
  replace HB4:=(HB4.ext e7).keep k8 aH
  replace E:=(E.trans e7.keep).step k8 bi
  replace HB5:=(HB5.ext e7).keep k8 aH
  replace EL1:=(EL1.trans e7.keep).step k8 bi
  exact ⟨_,rfl,EL1,⟨HB5,hp⟩,b7,⟨rfl,rfl,rfl,rfl,trivial⟩,HB8,by omega⟩
 ·
  rintro l pre x e1 w104 E EK ⟨HB5,hp⟩ ⟨b7,hh,HB7,hb7⟩ hlen
  have:=EK.size
  have:=E.size
  replace HSr:=HSr.keep EK aC
  replace HG1:=HG1.keep EK aC
  obtain ⟨jj,rfl⟩:∃ j,e1=oy _ j:=⟨_,hh.upd⟩
  replace HB1:=HB1.keep EK aH
  replace HB2:=HB2.keep EK aH
  replace HB4:=HB4.keep EK aH
  obtain ⟨q,_,_,_,_,hr⟩:=hcss x.val (rs.get x) (by simp)
  have hr':=dv.keep hr EK eU
  have EL1:=ao.refl (K:=fun i=>i=b3) w104
  refine aO (V (O zd (aa (ag zk Z (by first | exact HB7.cell rfl | exact HB5.cell rfl | exact HB4.cell rfl | exact HB2.cell rfl | exact HB1.cell rfl | assumption)) ?_)))
  refine aa (ap (n:=4) zk Z HB7.pv (dv.len hr)) ?_
  refine ah (eV hb Z (aZ Z) (ae.mono (his _ _ _ _ E ⟨_,rfl,hr'⟩) ?_))
  rintro _ w9 ⟨rfl,e9⟩
  have:=e9.size
  replace HSr:=HSr.ext e9
  replace HG1:=HG1.ext e9
  replace HB1:=HB1.ext e9
  replace HB2:=HB2.ext e9
  replace HB4:=HB4.ext e9
  replace E:=E.trans e9.keep
  replace HB5:=HB5.ext e9
  replace HB7:=HB7.ext e9
  replace EL1:=EL1.trans e9.keep
  refine ac (U (am Z Z (fun hq=>?_) (fun hq=>?_)))
  ·
   refine V (O zd (aa (aQ Z) (ah (aR Z Z (bB Z) Z zk HB5 (by simp) ?_))))
   rintro w10 HB10 k10 z10
   have:=k10.size
   replace EL1:=EL1.step k10 bi
   refine ac (U (cl (lC zq (⟨EL1,?_⟩))))
   exact ⟨rfl,pre,x,rfl,hp,hq,HB10⟩
  refine ar (bE (⟨EL1,?_⟩))
  exact ⟨HB5,fun y hy=>by rcases List.mem_append.1 hy with h | h;exact hp y h;(simp at h;subst h;exact hq)⟩
 ·
  rintro D w105 hD E EK ⟨HB5,hp⟩ HD
  have:=EK.size
  have:=E.size
  replace HB1:=HB1.keep EK aH
  replace HB2:=HB2.keep EK aH
  replace HB4:=HB4.keep EK aH
  refine bE (U (V (O zd (aa (ag zk Z (by first | exact HB5.cell rfl | exact HB4.cell rfl | exact HB2.cell rfl | exact HB1.cell rfl | assumption)) ?_))))
  refine aa (bO Z) (ac (U (aw (lW (px HD Z zq (bB Z) ?_)))))
  have E:=ml E (by omega:w.heap.size≤D) (.deferred none)
  exact ⟨by rw [dZ,if_pos hm,rD hp];rfl,E⟩
 rintro D _ pre w106 hD E EK hpre ⟨rfl,q,x,rfl,hq2,hq3,HB5⟩ HD
 have:=EK.size
 have:=E.size
 replace HB1:=HB1.keep EK aH
 replace HB2:=HB2.keep EK aH
 replace HB4:=HB4.keep EK aH
 refine cl (cV (U (V (O zd (aa (ag zk Z (by first | exact HB5.cell rfl | exact HB4.cell rfl | exact HB2.cell rfl | exact HB1.cell rfl | assumption)) ?_)))))
 refine aa (bO Z) (ac (U (aw (lW (px HD Z zq (bB Z) ?_)))))
 have E:=ml E (by omega:w.heap.size≤D) (.deferred none)
 exact ⟨by rw [dZ,if_pos hm,rC hpre hq2 hq3];rfl,E⟩
end Go.Proofs.YteehplloacefmaaGreat
namespace Go.Proofs.YteehplloacefmaaGreat
open Go.Vc
theorem vO {w:World} {n:Nat} (hn:n≤1000000):ae Tryz.prog 122 #[.slice none 0 0,.int .i64 n] w (fun o w'=>ck dv 53 w' w.heap.size aP o []∧aX w w'):=by
 refine aL 27 Tryz.func122 Z Z (by simp) ?_
 refine V ?_
 have E:=ao.refl (K:=aP) w
 refine O zd (aa (ad Z) (ac (U (V (V (O zd (aa (aQ Z) (aa (bw Z Z) ?_))))))))
 refine ac (U (am Z Z (fun hc=>?_) (fun hc=>?_)))
 ·
  have:=bl hc;omega
 refine ar (U (V (V (O zd (aa (aQ Z) (aa (bP Z) (aa (uK (et:=53) zk Z) ?_)))))))
 refine aa (bP Z) (aa (ba (et:=53) zk Z) ?_)
 refine aa (iE Z Z (by first | exact bn zo zo | rfl)) ?_
 refine aa (iE Z Z (by first | exact bn zo zo | rfl)) ?_
 refine aa (bO Z) (ac (U (V (O zd (aa (aQ Z) (aa (bX Z Z) ?_))))))
 refine ac (U (am Z Z (fun hp=>?_) (fun hp=>?_)))
 ·
  have hp0:0 < n:=by have:=bl hp;omega
  refine O zd (aa (bP Z) (aa (bP Z) (aa (uK (et:=53) zk Z) ?_)))
  refine aa (eZ (et:=53) (sz:=4) (h:=0) zk zk Z Z (by first | rfl | omega) zo) ?_
  refine aa (aQ Z) (ah (pp (t:=dv) (k:=n) (kn:=.i64) (et:=53) (bytes:=64) zk zk Z (show _=Value.int .i64 (n:Int) from congrArg (Value.int _) (by simp)) (hp0) zo (by simp only [maxLen];omega) ?_))
  rintro b5 c5 w5 zb5 HO5 e5 z5
  have:=e5.size
  have zo_HO5:=fun (b:Nat) h=>HO5.own_lt (b:=b) h
  refine aa (bP Z) (aa (ba (et:=53) zk Z) ?_)
  refine aa (eZ (et:=53) (sz:=4) (h:=0) zk zk Z Z (by first | rfl | omega) zo) ?_
  refine aa (cF Z) (ac (U (V (O zd (aa (bP Z) (aa (cF Z) (ac (U (aw ?_)))))))))
  refine aU Z zq (bI Z) ?_
  replace E:=E.trans e5.keep
  exact ⟨HO5.base zo,E⟩
 refine ar (U (V (O zd (aa (bP Z) (aa (cF Z) (ac (U (aw (aU Z zq (bI Z) ?_)))))))))
 exact ⟨ck.nil _ _ _ _ _,E⟩
theorem pc {w:World} {F:Nat→Prop} {v:Value} {ls:List (List cO)} (HS1:bs (dB dv) w F v ls) (hn:ls.length≤1000) (hl:ls.flatten.length≤1000000):ae Tryz.prog 88 #[v] w (fun o w'=>bs dv w' (fun b=>b < w'.heap.size) o ls.flatten∧aX w w'):=by
 obtain ⟨a1,c1,rfl⟩:=HS1.shape
 have hpre:∀ i,(ls.take i).flatten.length≤ls.flatten.length:=fun i=>by
  have:ls.flatten=(ls.take i).flatten ++ (ls.drop i).flatten:=by rw [← List.flatten_append,List.take_append_drop]
  rw [this,List.length_append];omega
 have hstep:∀ i x,ls[i]? = some x→(ls.take (i + 1)).flatten=(ls.take i).flatten ++ x:=fun i x hx=>by rw [List.take_add_one,hx];simp
 refine aL 36 Tryz.func88 Z Z (by simp) ?_
 refine V ?_
 have E:=ao.refl (K:=aP) w
 replace HS1:=HS1.all
 refine O zd (aa (ad Z) (ac (U (V (O zd (aa (ad Z) (ac (U (V ?_)))))))))
 refine V (O zd (aa (bP Z) (aa (ba (et:=22) zk Z) ?_)))
 refine aa (be Z) (ac (U (aO (cy (τ:=Nat) [3,5,11,12,13,14,15,16,17,18,19,20,21,22] (fun i=>[(3,.int .i64 ((ls.take i).flatten.length:Nat)),(11,.int .i64 i)]) (fun i W=>aX w W∧ao (aP) w W∧i≤ls.length) (fun i=>ls.length - i) 0 (by exact ⟨rfl,rfl,trivial⟩) (by exact ⟨E,ao.refl _,Nat.zero_le _⟩) ?_))))
 rintro i w101 j ⟨E,EL1,h1⟩
 have:=EL1.size
 refine V (O zd (aa (bw Z Z) ?_))
 replace HS1:=HS1.ext EL1
 refine ac (U (V (am Z Z (fun hlt=>?_) (fun hlt=>?_))))
 ·
  have hlt:=bl hlt
  obtain ⟨x,hx,_⟩:=eC (l:=ls) (i:=i) zo
  have hs:=congrArg List.length (hstep i x hx)
  rw [List.length_append] at hs
  have hp1:=hpre (i + 1)
  refine ar (U (V (aO (V (O zd (ah (ed (et:=22) zk zk (bI Z) HS1 (bB Z) Z hx ?_)))))))
  rintro q cs hF HPq hr
  obtain ⟨u,rfl,HSu⟩:=hr
  obtain ⟨a2,c2,rfl⟩:=HSu.shape
  refine aa (ag zk Z (by first | exact aK HPq | assumption)) ?_
  refine aa (cF Z) (ac (U (V (O zd (aa (aQ Z) (aa (bP Z) (aa (ba (et:=53) zk Z) ?_)))))))
  refine aa (cn Z Z (by first | exact bn zo zo | rfl)) ?_
  refine aa (bO Z) (ac (U (V (O zd (aa (aQ Z) (aa (bw Z Z) ?_))))))
  refine ac (U (am Z Z (fun hneg=>?_) (fun hneg=>?_)))
  ·
   have:=bl hneg;omega
  refine ar (bE (U (O zd (aa (cn Z Z (by first | exact bn zo zo | rfl)) ?_))))
  refine aa (aQ Z) (ac (U (⟨i + 1,_,rfl,by (repeat (first | exact cD.of_over _ _ _ | refine cD.upd ?_ zq _ | refine cD.overs ?_ zq _)),⟨by first | rfl | exact congrArg (Value.int _) zo | (simp;done),by first | rfl | exact congrArg (Value.int _) zo | (simp;done),trivial⟩,⟨E,EL1,?_⟩,?_⟩)))
  ·
   omega
  (dsimp only;omega)
 refine cl (bm (bm (cV (U (V (O zd (aa (aQ Z) (ah (aW zk (bI Z) (bB Z) (ae.mono (vO (by have:=hpre i;omega)) ?_))))))))))
 rintro v6 w6 ⟨HO6,e6⟩
 have:=e6.size
 have zo_HO6:=fun (b:Nat) h=>HO6.own_lt (b:=b) h
 obtain ⟨a6,c6,rfl⟩:=HO6.shape
 refine aa (cF Z) (ac (U (V (V (O zd (aa (bP Z) (aa (ba (et:=22) zk Z) ?_)))))))
 replace E:=E.trans e6.keep
 refine aa (be Z) (ac (U (aO (cy (τ:=Nat × Value) [6,8,27,28,29,30,31,32,33,34] (fun (i,v)=>[(6,v),(27,.int .i64 i)]) (fun (i,v) W=>aX w W∧ao (fun b=>w.heap.size≤b) w6 W∧i≤ls.length∧ck dv 53 W w.heap.size (fun b=>b < w.heap.size) v (ls.take i).flatten) (fun (i,v)=>ls.length - i) (0,_) (by exact ⟨rfl,rfl,trivial⟩) (by exact ⟨E,ao.refl _,Nat.zero_le _,(HO6.base zo).mono (fun _ _ h=>h.elim)⟩) ?_))))
 rintro ⟨i,v⟩ w102 j ⟨E,EL2,h3,HOv⟩
 have:=EL2.size
 have zo_HOv:=fun (b:Nat) h=>HOv.own_lt (b:=b) h
 refine V (O zd (aa (bw Z Z) ?_))
 replace HS1:=(HS1.ext e6).keep EL2 aC
 refine ac (U (V (am Z Z (fun hlt2=>?_) (fun hlt2=>?_))))
 ·
  have hlt2:=bl hlt2
  obtain ⟨x,hx,_⟩:=eC (l:=ls) (i:=i) zo
  have hs:=congrArg List.length (hstep i x hx)
  rw [List.length_append] at hs
  have hp1:=hpre (i + 1)
  refine ar (U (V (aO (V (O zd (ah (ed (et:=22) zk zk (bI Z) HS1 (bB Z) Z hx ?_)))))))
  rintro q cs hF HPq hr
  obtain ⟨u,rfl,HSu⟩:=hr
  obtain ⟨a2,c2,rfl⟩:=HSu.shape
  obtain ⟨a3,c3,rfl⟩:=HOv.shape
  refine aa (ag zk Z (by first | exact aK HPq | assumption)) ?_
  refine aa (cF Z) (ac (U (O zd (aa (bP Z) (aa (bP Z) (ah (cv (et:=53) (bytes:=64) zk (bI Z) HOv (bI Z) HSu (lf fun b _ hb=>⟨hb,fun ho=>by have:=HOv.own_lt ho;omega⟩) (by first | omega | (simp;done) | (simp;omega)) (by simp only [maxLen];first | omega | (simp;done) | (simp;omega)) zo ?_)))))))
  rintro a9 n9 c9 w9 HO9 hn9 k9 h9 i9
  have:=k9.size
  have zo_HO9:=fun (b:Nat) h=>HO9.own_lt (b:=b) h
  refine aa (cF Z) (ac (bE (U (O zd (aa (cn Z Z (by first | exact bn zo zo | rfl)) ?_)))))
  replace E:=E.step k9 (by intro i hi he;have he0:=he;(try dsimp only [aP] at hi he ⊢);(try simp only [Value.ownBlock,Option.some.injEq] at he);first | exact he.elim | omega | exact he | (have:=(HOv).own_lt he0;omega) | (have:=zo_HOv _ he0;omega) | (have:=(HOv).own_lt he0;rcases hi with hi | hi <;> omega))
  replace HS1:=HS1.keep k9 (by intro i _ hi he;have he0:=he;(try dsimp only [aP,bj] at hi he);(try simp only [Value.ownBlock,Option.some.injEq] at he);first | exact hi.elim | exact he.elim | omega | (rcases hi with hi | hi <;> omega) | (rcases he with he | he <;> omega) | (have:=(HOv).own_lt he0;omega) | (have:=zo_HOv _ he0;omega) | (have:=(HOv).own_lt he0;rcases hi with hi | hi <;> omega))
  replace EL2:=EL2.step k9 (by intro i hi he;have he0:=he;(try dsimp only [aP] at hi he ⊢);(try simp only [Value.ownBlock,Option.some.injEq] at he);first | exact he.elim | omega | exact he | (have:=(HOv).own_lt he0;omega) | (have:=zo_HOv _ he0;omega) | (have:=(HOv).own_lt he0;rcases hi with hi | hi <;> omega))
  replace HPq:=HPq.keep k9 (by intro h;have he0:=h;(try dsimp only at h);(try simp only [Value.ownBlock,Option.some.injEq] at h);(try simp only [au] at h);(try simp only [au] at he0);first | omega | (have:=(HOv).own_lt he0;omega) | (have:=zo_HOv _ he0;omega))
  replace HSu:=HSu.keep k9 (by intro i _ hi he;have he0:=he;(try dsimp only [aP,bj] at hi he);(try simp only [Value.ownBlock,Option.some.injEq] at he);first | exact hi.elim | exact he.elim | omega | (rcases hi with hi | hi <;> omega) | (rcases he with he | he <;> omega) | (have:=(HOv).own_lt he0;omega) | (have:=zo_HOv _ he0;omega) | (have:=(HOv).own_lt he0;rcases hi with hi | hi <;> omega))
  refine aa (aQ Z) (ac (U (⟨(i + 1,.slice a9 n9 c9),_,rfl,by (repeat (first | exact cD.of_over _ _ _ | refine cD.upd ?_ zq _ | refine cD.overs ?_ zq _)),⟨by first | rfl | exact congrArg (Value.int _) zo | (simp;done),by first | rfl | exact congrArg (Value.int _) zo | (simp;done),trivial⟩,⟨E,EL2,?_⟩,?_⟩)))
  ·
   exact ⟨by omega,by rw [hstep i x hx];exact HO9⟩
  (dsimp only;omega)
 obtain ⟨a4,c4,rfl⟩:=HOv.shape
 refine cl (bm (bm (cV (U (V (O zd (aa (bP Z) (aa (cF Z) (ac ?_)))))))))
 refine U (aw (aU Z zq (bI Z) ?_))
 have h:=bf hlt2
 have e1:ls.take i=ls:=List.take_of_length_le zo
 rw [e1] at HOv ⊢
 exact ⟨HOv.view.all,E⟩
theorem tL {w:World} {F:Nat→Prop} {v:Value} {l:List cO} (HS1:bs dv w F v l) (hn:l.length≤1000000):ae Tryz.prog 123 #[v] w (fun o w'=>ck dv 53 w' w.heap.size (fun b=>b < w.heap.size) o l∧aX w w'):=by
 obtain ⟨a1,c1,rfl⟩:=HS1.shape
 refine aL 8 Tryz.func123 Z Z (by simp) ?_
 refine V ?_
 have E:=ao.refl (K:=aP) w
 replace HS1:=HS1.all
 refine O zd (aa (ad Z) (ac (U (V (V (O zd (aa (bP Z) (aa (lF (et:=53) zk Z Z) ?_))))))))
 refine ac (U (am Z Z (fun hc=>?_) (fun hc=>?_)))
 ·
  refine V (O zd (aa (ad Z) (ac (U (aw (ay (aU Z zq (bI Z) ?_)))))))
  have hn:a1=none:=by simpa using hc
  subst hn
  obtain ⟨a,c,hv,_,_,h3,_⟩:=HS1
  cases hv
  have:l=[]:=List.eq_nil_of_length_eq_zero (by have:=h3 rfl;omega)
  subst this
  exact ⟨ck.nil _ _ _ _ _,E⟩
 refine ar (U (V (O zd (ah (jp (t:=dv) (et:=53) (bytes:=64) zk ?_)))))
 rintro b2 w2 zb2 HO2 e2 z2
 have:=e2.size
 have zo_HO2:=fun (b:Nat) h=>HO2.own_lt (b:=b) h
 replace HS1:=HS1.ext e2
 refine aa (bP Z) (ah (cv (et:=53) (bytes:=64) zk (bI Z) (HO2.mono (F':=fun b=>b < w.heap.size) fun _ _ h=>h.elim) (bI Z) HS1 (lf fun b _ hb=>⟨hb,fun ho=>by have:=HO2.own_lt ho;omega⟩) (by first | omega | (simp;done) | (simp;omega)) (by simp only [maxLen];first | omega | (simp;done) | (simp;omega)) zo ?_))
 rintro a3 n3 c3 w3 HO3 hn3 k3 h3 i3
 have:=k3.size
 have zo_HO3:=fun (b:Nat) h=>HO3.own_lt (b:=b) h
 refine aa (cF Z) (ac (U (aw (aU Z zq (bI Z) ?_))))
 replace E:=(E.trans e2.keep).step k3 (by intro i hi he;have he0:=he;(try dsimp only [aP] at hi he ⊢);(try simp only [Value.ownBlock,Option.some.injEq] at he);first | exact he.elim | omega | exact he | (have:=((HO2.mono (F':=fun b=>b < w.heap.size) fun _ _ h=>h.elim)).own_lt he0;omega) | (have:=zo_HO2 _ he0;omega) | (have:=((HO2.mono (F':=fun b=>b < w.heap.size) fun _ _ h=>h.elim)).own_lt he0;rcases hi with hi | hi <;> omega))
 exact ⟨HO3.base zo,E⟩
end Go.Proofs.YteehplloacefmaaGreat
namespace Go.Proofs.YteehplloacefmaaGreat
open Go.Vc
theorem pH {w:World} {F:Nat→Prop} {u v:Value} {e:Int} {rs:List cO} (HS1:bs dv w F v rs) (he:0≤e∧e≤2147483647) (hn:rs.length≤1000) (hl:∀ r ∈ rs,r.1.length≤100∧r.2.1.length≤100) :
    ae Tryz.prog 87 #[.agg #[.int .i64 e,u],v] w (fun o w'=>(∃ x,o=.tuple #[x,.int .i64 (jE e rs).2]∧aY li w' (fun b=>w.heap.size≤b) x (jE e rs).1)∧aX w w'):=by
 obtain ⟨a1,c1,rfl⟩:=HS1.shape
 refine aL 37 Tryz.func87 Z Z (by simp) ?_
 refine V ?_
 have E:=ao.refl (K:=aP) w
 replace HS1:=HS1.all
 refine O zd (ah (aS (aZ Z) ?_))
 rintro b2 w2 zb2 HB2 e2 z2
 have:=e2.size
 try simp only [Value.cells] at HB2
 refine ah (aD (z:=(.agg #[.int .i64 0,.slice none 0 0])) (by unfold aE;kernel_rfl) ?_)
 rintro b4 w4 zb4 HB4 e4 z4
 have:=e4.size
 try simp only [Value.cells] at HB4
 replace HB2:=HB2.ext e4
 refine aa (ad Z) (ac (U (V (V (O zd (aa (aA 0 2 Z) (aa (ag zk Z (by first | exact HB4.pv 0 _ rfl | exact HB2.pv 0 _ rfl | assumption)) ?_)))))))
 refine aa (aJ Z Z) ?_
 refine aa (bH Z) (aj Z Z (fun hG=>bP Z) (aj Z Z (fun hG=>ba (et:=53) zk (gd hG Z)) ?_))
 refine aj Z Z (fun hG=>bX (gd hG Z) Z) ?_
 refine aa (bF Z Z) ?_
 replace E:=(E.trans e2.keep).trans e4.keep
 replace HS1:=(HS1.ext e2).ext e4
 refine ac (U (am Z Z (fun hc=>?_) (fun hc=>?_)))
 ·
  refine V (O zd (aa (aV (pl:=[(0,1),(1,1)]) (z:=.agg #[.int .i64 0,.slice none 0 0]) (zl:=[.int .i64 0,.slice none 0 0]) zk (by unfold aE;kernel_rfl) Z Z (cells:=[_,_]) Z) ?_))
  refine ah (aq (n:=2) Z Z (aZ Z) zk Z cT HB4 bV ?_)
  rintro w101 HB4 k101 z101
  have:=k101.size
  try simp only [zS,Nat.zero_add,Nat.reduceAdd,List.drop_nil] at HB4
  refine aa (ad Z) (ac (U (aw (ay (bL (n:=2) Z zq zq Z zk HB4.pv Z (bB Z) ?_)))))
  replace E:=E.step k101 bi
  replace HS1:=HS1.keep k101 aC
  replace HB2:=HB2.keep k101 aH
  have h:e=2147483647∨16 < rs.length:=by
   simp only [Bool.or_eq_true,decide_eq_true_eq] at hc;omega
  rw [jE,if_pos h]
  exact ⟨⟨_,rfl,aY.mkMp (bs.nil _ _ _) zo⟩,E⟩
 have h:¬ (e=2147483647∨16 < rs.length):=by
  simp only [Bool.or_eq_false_iff,decide_eq_false_iff_not] at hc;omega
 refine ar (U (V (O zd (aa (aA 0 2 Z) (aa (ag zk Z (by first | exact HB4.pv 0 _ rfl | exact HB2.pv 0 _ rfl | assumption)) ?_)))))
 refine aa (cn Z Z (by first | exact bn zo zo | rfl)) ?_
 refine aa (aV (pl:=[(0,1),(1,1)]) (z:=.agg #[.int .i64 0,.slice none 0 0]) (zl:=[.int .i64 0,.slice none 0 0]) zk (by unfold aE;kernel_rfl) Z Z (cells:=[_,_]) Z) ?_
 refine ah (aD (z:=(.agg #[.int .i64 0,.slice none 0 0])) (by unfold aE;kernel_rfl) ?_)
 rintro b6 w6 zb6 HB6 e6 z6
 have:=e6.size
 try simp only [Value.cells] at HB6
 refine ah (aq (n:=2) Z Z (aZ Z) zk Z cT HB6 bV ?_)
 rintro w102 HB6 k102 z102
 have:=k102.size
 try simp only [zS,Nat.zero_add,Nat.reduceAdd,List.drop_nil] at HB6
 refine ac (U (V (V (O zd (aa (bP Z) (aa (ba (et:=53) zk Z) ?_))))))
 replace E:=(E.trans e6.keep).step k102 bi
 refine aa (be Z) (ac (U (aO (cy (τ:=Nat × Value) [8,24,25,26,27,28,29,30,31,32,33,34,35] (fun (i,x)=>[(24,.int .i64 i)]) (fun (i,x) W=>aX w W∧ao (fun b=>b6≤b) w102 W∧i≤rs.length∧dh W b6 [.int .i64 (e + 1),x] 24∧ck dv 53 W w6.heap.size (fun b=>b6 < b∧b < W.heap.size) x (rs.take i)) (fun (i,x)=>rs.length - i) (0,.slice none 0 0) (by exact ⟨rfl,trivial⟩) (by exact ⟨E,ao.refl _,Nat.zero_le _,HB6,ck.nil _ _ _ _ _⟩) ?_))))
 replace HS1:=(HS1.ext e6).keep k102 aC
 rintro ⟨i,x⟩ w103 j ⟨E,EL1,h1,HB6,HOx⟩
 have:=EL1.size
 have zo_HOx:=fun (b:Nat) h=>HOx.own_lt (b:=b) h
 refine V (O zd (aa (bw Z Z) ?_))
 replace HB2:=((HB2.ext e6).keep k102 aH).keep EL1 aH
 replace HB4:=((HB4.ext e6).keep k102 aH).keep EL1 aH
 replace HS1:=HS1.keep EL1 aC
 refine ac (U (V (am Z Z (fun hlt=>?_) (fun hlt=>?_))))
 ·
  have hlt:=bl hlt
  have htl:(rs.take i).length=i:=by rw [List.length_take];omega
  obtain ⟨r,hx,_⟩:=eC (l:=rs) (i:=i) zo
  obtain ⟨hl1,hl2⟩:=hl r (List.mem_of_getElem? hx)
  refine ar (U (V (aO (V (O zd (ah (ed (et:=53) zk zk (bI Z) HS1 (bB Z) Z hx ?_)))))))
  rintro q cs hF HPq hr
  have HG3:aY dv _ _ _ r:=⟨cs,rfl,hr⟩
  obtain ⟨b3,d3,b5,d5,rfl,_,_,hg⟩:=bN hr
  obtain ⟨ax,cx,rfl⟩:=HOx.shape
  refine aa (ap zk Z (by first | exact HPq | exact HB6.pv | exact HB4.pv | exact HB2.pv | assumption) Z) ?_
  refine ah (aD (z:=(.agg #[.slice none 0 0,.slice none 0 0,.bool false,.int .i64 0])) (by unfold aE;kernel_rfl) ?_)
  rintro b8 w8 zb8 HB8 e8 z8
  have:=e8.size
  try simp only [Value.cells] at HB8
  refine ah (aq (n:=4) Z Z (aZ Z) zk Z cT HB8 bV ?_)
  rintro w104 HB8 k104 z104
  have:=k104.size
  try simp only [zS,Nat.zero_add,Nat.reduceAdd,List.drop_nil] at HB8
  refine ac (U (cN zk ?_))
  have e105:aX w104 { w104 with drawn:=w104.drawn + 1 }:=ao.drawn _ _
  replace E:=(E.trans e8.keep).step k104 bi
  replace HS1:=(HS1.ext e8).keep k104 aC
  replace HB2:=(HB2.ext e8).keep k104 aH
  replace HB4:=(HB4.ext e8).keep k104 aH
  replace HB6:=(HB6.ext e8).keep k104 aH
  replace HOx:=(HOx.ext e8).keep k104 (by intro i ho he;have he0:=he;have ho0:=ho;(try dsimp only [aP] at he);(try simp only [Value.ownBlock,Option.some.injEq,reduceCtorEq] at ho);(try simp only [Value.ownBlock,Option.some.injEq,reduceCtorEq] at he);first | exact he.elim | exact ho.elim | omega | (have:=zo_HOx _ ho0;omega)) (by intro i _ hi _ he;have he0:=he;have hi:=hi;have he:=he;(try dsimp only [aP,bj] at hi he);(try simp only [Value.ownBlock,Option.some.injEq,reduceCtorEq] at he);all_goals first | exact hi.elim | exact hi.1.elim | exact he.elim | omega | (rcases hi with hi | hi <;> omega) | (rcases he with he | he <;> omega))
  replace EL1:=(EL1.trans e8.keep).step k104 bi
  replace HPq:=(HPq.ext e8).keep k104 (by intro h;(try dsimp only at h);(try simp only [au] at h);first | omega)
  replace HG3:=(HG3.ext e8).keep k104 aC
  generalize hw105:({ w104 with drawn:=w104.drawn + 1 }:World)=w105 at e105 ⊢
  clear hw105
  have:=e105.size
  refine bT 5 Z zd zd zd ?_
  refine cf (aP) zd zd ?_
  refine aB (fun ab w hR hd=>aA 1 22 Z) ?_
  replace HB2:=HB2.ext e105
  replace HB4:=HB4.ext e105
  replace HB6:=HB6.ext e105
  replace HPq:=HPq.ext e105
  replace HB8:=HB8.ext e105
  refine aB (fun ab w hR hd=>ag zk (hd 0 Z) (by first | exact (HB8.ext hR).pv 1 _ rfl | exact (HPq.ext hR) 1 _ rfl | exact aK (HPq.ext hR) | exact (HB6.ext hR).pv 1 _ rfl | exact (HB4.ext hR).pv 1 _ rfl | exact (HB2.ext hR).pv 1 _ rfl | assumption)) ?_
  refine aB (fun ab w hR hd=>ap zk Z (by first | exact (HB8.ext hR).pv | exact (HPq.ext hR) | exact (HB6.ext hR).pv | exact (HB4.ext hR).pv | exact (HB2.ext hR).pv | assumption) Z) ?_
  replace HG3:=HG3.ext e105
  refine cr (fun v W=>aY dv W (fun b=>b8 < b) v r) (fun v w w' h k=>h.ext k) (fun ab w hR hd=>av zk (show _=(Value.agg _) from (hd 2 Z)) (ae.mono (qH (HG3.ext hR) zo zo) fun v w1 ⟨h,e⟩=>⟨e,h.mono fun b _ hb=>by have:=hR.size;omega⟩)) ?_
  refine cr (fun v W=>bs dv W (fun b=>b8 < b) v [r]) (fun v w w' h k=>h.ext k) (fun ab w hR hd=>by (obtain ⟨cs,hcs,hr⟩:=hd 3 rfl;exact cp (t:=dv) (et:=53) (bytes:=64) zk zq (show _=ab 3 from rfl) (by rw [hcs];exact hr) fun b w1 hb HO e z=>⟨e,HO.view.mono fun i _ hi=>by have:=hR.size;exact hi.elim (fun h=>by omega) (fun h=>h.1)⟩)) ?_
  have htl2:(rs.take i ++ [r]).length=i + 1:=by rw [List.length_append,htl];rfl
  replace HOx:=HOx.ext e105
  have HOy:=HOx.mono (F':=fun b=>b6 < b) fun b _ h=>h.1
  have zo_HOy:=fun (b:Nat) h=>HOy.own_lt (b:=b) h
  have zo_HOy:=zo_HOx
  refine bU (fun w106 e106=>?_)
  rintro _ rfl _ rfl _ rfl v31 HG31 v32 HS32
  have:=e106.size
  obtain ⟨a32,c32,rfl⟩:=HS32.shape
  refine bG (U (bT 1 Z zd zd zd ?_))
  refine bZ zd Z ?_
  replace HOy:=HOy.ext e106
  refine ah (cv (et:=53) (bytes:=64) zk (bI Z) HOy (bI Z) HS32 (lf fun b hb hb2=>⟨by omega,fun ho=>by have:=zo_HOx _ ho;omega⟩) (by first | omega | (simp;done) | (simp;omega)) (by simp only [maxLen];first | omega | (simp;done) | (simp;omega)) zo ?_)
  rintro a9 n9 c9 w9 HO9 hn9 k9 h9 i9
  have:=k9.size
  have zo_HO9:=fun (b:Nat) h=>HO9.own_lt (b:=b) h
  refine ac (U (bT 1 Z zd zd zd ?_))
  refine bZ zd Z ?_
  refine aa (aA 1 22 Z) (ac (U (bZ zd Z ?_)))
  replace HB6:=(HB6.ext e106).keep k9 (by intro h;have he0:=h;(try dsimp only at h);(try simp only [Value.ownBlock,Option.some.injEq] at h);first | omega | (have:=(HOy).own_lt he0;omega) | (have:=zo_HOy _ he0;omega))
  refine ah (aR Z Z (bI Z) Z zk HB6 bV ?_)
  rintro w107 HB6 k107 z107
  have:=k107.size
  try simp only [zS,Nat.zero_add,Nat.reduceAdd,List.drop_nil] at HB6
  refine ac (bE (U (O zd (aa (cn Z Z (by first | exact bn zo zo | rfl)) ?_))))
  replace E:=(((E.trans e105.keep).trans e106.keep).step k9 (by intro i hi he;have he0:=he;(try dsimp only [aP] at hi he ⊢);(try simp only [Value.ownBlock,Option.some.injEq] at he);first | exact he.elim | omega | exact he | (have:=(HOy).own_lt he0;omega) | (have:=zo_HOy _ he0;omega) | (have:=(HOy).own_lt he0;rcases hi with hi | hi <;> omega))).step k107 bi
  replace HS1:=(((HS1.ext e105).ext e106).keep k9 (by intro i _ hi he;have he0:=he;(try dsimp only [aP,bj] at hi he);(try simp only [Value.ownBlock,Option.some.injEq] at he);first | exact hi.elim | exact he.elim | omega | (rcases hi with hi | hi <;> omega) | (rcases he with he | he <;> omega) | (have:=(HOy).own_lt he0;omega) | (have:=zo_HOy _ he0;omega) | (have:=(HOy).own_lt he0;rcases hi with hi | hi <;> omega))).keep k107 aC
  replace EL1:=(((EL1.trans e105.keep).trans e106.keep).step k9 (by intro i hi he;have he0:=he;(try dsimp only [aP] at hi he ⊢);(try simp only [Value.ownBlock,Option.some.injEq] at he);first | exact he.elim | omega | exact he | (have:=(HOy).own_lt he0;omega) | (have:=zo_HOy _ he0;omega) | (have:=(HOy).own_lt he0;rcases hi with hi | hi <;> omega))).step k107 bi
  replace HB2:=((HB2.ext e106).keep k9 (by intro h;have he0:=h;(try dsimp only at h);(try simp only [Value.ownBlock,Option.some.injEq] at h);first | omega | (have:=(HOy).own_lt he0;omega) | (have:=zo_HOy _ he0;omega))).keep k107 aH
  replace HB4:=((HB4.ext e106).keep k9 (by intro h;have he0:=h;(try dsimp only at h);(try simp only [Value.ownBlock,Option.some.injEq] at h);first | omega | (have:=(HOy).own_lt he0;omega) | (have:=zo_HOy _ he0;omega))).keep k107 aH
  replace HPq:=((HPq.ext e106).keep k9 (by intro h;have he0:=h;(try dsimp only at h);(try simp only [Value.ownBlock,Option.some.injEq] at h);(try simp only [au] at h);(try simp only [au] at he0);first | omega | (have:=(HOy).own_lt he0;omega) | (have:=zo_HOy _ he0;omega))).keep k107 (by intro h;(try dsimp only at h);(try simp only [au] at h);first | omega)
  replace HG3:=((HG3.ext e106).keep k9 (by intro i _ hi he;have he0:=he;(try dsimp only [aP,bj] at hi he);(try simp only [Value.ownBlock,Option.some.injEq] at he);first | exact hi.elim | exact he.elim | omega | (rcases hi with hi | hi <;> omega) | (rcases he with he | he <;> omega) | (have:=(HOy).own_lt he0;omega) | (have:=zo_HOy _ he0;omega) | (have:=(HOy).own_lt he0;rcases hi with hi | hi <;> omega))).keep k107 aC
  replace HB8:=((HB8.ext e106).keep k9 (by intro h;have he0:=h;(try dsimp only at h);(try simp only [Value.ownBlock,Option.some.injEq] at h);first | omega | (have:=(HOy).own_lt he0;omega) | (have:=zo_HOy _ he0;omega))).keep k107 aH
  replace HG31:=(HG31.keep k9 (by intro i _ hi he;have he0:=he;(try dsimp only [aP,bj] at hi he);(try simp only [Value.ownBlock,Option.some.injEq] at he);first | exact hi.elim | exact he.elim | omega | (rcases hi with hi | hi <;> omega) | (rcases he with he | he <;> omega) | (have:=(HOy).own_lt he0;omega) | (have:=zo_HOy _ he0;omega) | (have:=(HOy).own_lt he0;rcases hi with hi | hi <;> omega))).keep k107 aC
  replace HS32:=(HS32.keep k9 (by intro i _ hi he;have he0:=he;(try dsimp only [aP,bj] at hi he);(try simp only [Value.ownBlock,Option.some.injEq] at he);first | exact hi.elim | exact he.elim | omega | (rcases hi with hi | hi <;> omega) | (rcases he with he | he <;> omega) | (have:=(HOy).own_lt he0;omega) | (have:=zo_HOy _ he0;omega) | (have:=(HOy).own_lt he0;rcases hi with hi | hi <;> omega))).keep k107 aC
  replace HO9:=HO9.keep k107 (by intro i ho he;have he0:=he;have ho0:=ho;(try dsimp only [aP] at he);(try simp only [Value.ownBlock,Option.some.injEq,reduceCtorEq] at ho);(try simp only [Value.ownBlock,Option.some.injEq,reduceCtorEq] at he);first | exact he.elim | exact ho.elim | omega | (have:=zo_HO9 _ ho0;omega)) (by intro i _ hi _ he;have he0:=he;have hi:=hi;have he:=he;(try dsimp only [aP,bj] at hi he);(try simp only [Value.ownBlock,Option.some.injEq,reduceCtorEq] at he);all_goals first | exact hi.elim | exact hi.1.elim | exact he.elim | omega | (rcases hi with hi | hi <;> omega) | (rcases he with he | he <;> omega))
  refine aa (aQ Z) (ac (U (⟨(i + 1,.slice a9 n9 c9),_,rfl,by (repeat (first | exact cD.of_over _ _ _ | refine cD.upd ?_ zq _ | refine cD.overs ?_ zq _)),⟨by first | rfl | exact congrArg (Value.int _) zo | (simp;done),trivial⟩,⟨E,EL1,?_⟩,?_⟩)))
  ·
   exact ⟨by omega,HB6,by rw [List.take_add_one,hx];exact HO9.mono fun b hb h=>⟨h,hb⟩⟩
  (dsimp only;omega)
 obtain ⟨ax,cx,rfl⟩:=HOx.shape
 refine cl (bm (bm (cV (U (V (O zd (aa (ap zk Z (by first | exact HB6.pv | exact HB4.pv | exact HB2.pv | assumption) Z) ?_)))))))
 refine ah (aq (n:=2) Z Z (aZ Z) zk Z cT HB4 bV ?_)
 rintro w108 HB4 k108 z108
 have:=k108.size
 try simp only [zS,Nat.zero_add,Nat.reduceAdd,List.drop_nil] at HB4
 refine aa (ad Z) (ac (U (aw (bL (n:=2) Z zq zq Z zk HB4.pv Z (bB Z) ?_))))
 have h2:=bf hlt
 have e1:rs.take i=rs:=List.take_of_length_le zo
 replace HOx:=HOx.keep k108 (by intro i ho he;have he0:=he;have ho0:=ho;(try dsimp only [aP] at he);(try simp only [Value.ownBlock,Option.some.injEq,reduceCtorEq] at ho);(try simp only [Value.ownBlock,Option.some.injEq,reduceCtorEq] at he);first | exact he.elim | exact ho.elim | omega | (have:=zo_HOx _ ho0;omega)) (by intro i _ hi _ he;have he0:=he;have hi:=hi;have he:=he;(try dsimp only [aP,bj] at hi he);(try simp only [Value.ownBlock,Option.some.injEq,reduceCtorEq] at he);all_goals first | exact hi.elim | exact hi.1.elim | exact he.elim | omega | (rcases hi with hi | hi <;> omega) | (rcases he with he | he <;> omega))
 rw [e1] at HOx ⊢
 rw [jE,if_neg h]
 replace E:=E.step k108 bi
 exact ⟨⟨_,rfl,aY.mkMp (HOx.view.mono fun b _ h=>by rcases h with h | h <;> omega) zo⟩,E⟩
end Go.Proofs.YteehplloacefmaaGreat
namespace Go.Proofs.YteehplloacefmaaGreat
open Go.Vc
theorem uE {w:World} {F G:Nat→Prop} {u kv:Value} {r:cO} {k:List UInt8} {b:Nat} {T:TypeId} (HG1:aY dv w F u r) (hb:dh w b [kv] T) (HS2:Bv w G kv k):ae Tryz.prog 80 #[u,.pointer (some ⟨b,0,none⟩)] w (fun o w'=>o=.bool (mq k r)∧aX w w'):=by
  obtain ⟨a1,c1,a2,c2,rfl,HSf,HSt,hg⟩:=HG1.rg
  obtain ⟨a3,c3,rfl⟩:=HS2.shape
  have HBk:=hb
  refine aL 7 Tryz.func80 Z Z (by simp) ?_
  refine V ?_
  have E:=ao.refl (K:=aP) w
  replace HG1:=HG1.all
  replace HS2:=HS2.all
  refine O zd (ah (aS (aZ Z) ?_))
  rintro b101 w101 zb101 HB101 e101 z101
  have:=e101.size
  try simp only [Value.cells] at HB101
  replace HBk:=HBk.ext e101
  refine aa (ad Z) (ac (U (V (O zd (aa (ap zk Z (by first | exact HB101.pv | exact HBk.pv | assumption) Z) ?_)))))
  refine aa (ag zk Z (by first | exact HB101.cell rfl | exact HBk.cell rfl | assumption)) ?_
  replace HG1:=HG1.ext e101
  replace HS2:=HS2.ext e101
  refine ah (aW zk (aZ Z) (bI Z) (ae.mono (wI HG1 HS2) ?_))
  rintro _ w102 ⟨rfl,e102⟩
  have:=e102.size
  refine aa (dl Z) (ac (U (aw (aU Z zq (cE Z) ?_))))
  replace E:=(E.trans e101.keep).trans e102.keep
  exact ⟨rfl,E⟩
theorem rH {w:World} {F G:Nat→Prop} {u kv:Value} {r:cO} {k:List UInt8} {b:Nat} {T:TypeId} (HG1:aY dv w F u r) (hb:dh w b [kv] T) (HS2:Bv w G kv k):ae Tryz.prog 121 #[u,.pointer (some ⟨b,0,none⟩)] w (fun o w'=>o=.bool (ge k r)∧aX w w'):=by
  obtain ⟨a1,c1,a2,c2,rfl,HSf,HSt,hg⟩:=HG1.rg
  obtain ⟨a3,c3,rfl⟩:=HS2.shape
  have HBk:=hb
  refine aL 8 Tryz.func121 Z Z (by simp) ?_
  refine V ?_
  have E:=ao.refl (K:=aP) w
  replace HSf:=HSf.all
  replace HS2:=HS2.all
  refine O zd (ah (aS (aZ Z) ?_))
  rintro b101 w101 zb101 HB101 e101 z101
  have:=e101.size
  try simp only [Value.cells] at HB101
  replace HBk:=HBk.ext e101
  refine aa (ad Z) (ac (U (V (O zd (aa (aA 0 28 Z) (aa (ag zk Z (by first | exact HB101.pv 0 _ rfl | exact HBk.pv 0 _ rfl | assumption)) ?_))))))
  refine aa (ag zk Z (by first | exact HB101.cell rfl | exact HBk.cell rfl | assumption)) ?_
  replace HSf:=HSf.ext e101
  replace HS2:=HS2.ext e101
  refine ah (aW zk (bI Z) (bI Z) (ae.mono (dI HSf HS2) ?_))
  rintro _ w102 ⟨rfl,e102⟩
  have:=e102.size
  refine aa (dl Z) (ac (U (aw (aU Z zq (cE Z) ?_))))
  replace E:=(E.trans e101.keep).trans e102.keep
  exact ⟨rfl,E⟩
theorem mE {w:World} {F G:Nat→Prop} {v kv:Value} {e:Int} {rs:List cO} {k:List UInt8} (HG1:aY li w F v (e,rs)) (HS2:Bv w G kv k):ae Tryz.prog 86 #[v,kv] w (fun o w'=>o=.int .i64 (dP (dZ (e,rs) (ge k)))∧aX w w'):=by
  obtain ⟨a,c,rfl,HSr,he⟩:=HG1.mp
  obtain ⟨a3,c3,rfl⟩:=HS2.shape
  refine aL 8 Tryz.func86 Z Z (by simp) ?_
  refine V ?_
  have E:=ao.refl (K:=aP) w
  replace HG1:=HG1.all
  replace HS2:=HS2.all
  refine O zd (ah (aS (aZ Z) ?_))
  rintro b2 w2 zb2 HB2 e2 z2
  have:=e2.size
  try simp only [Value.cells] at HB2
  refine ah (aS (bI Z) ?_)
  rintro b3 w3 zb3 HB3 e3 z3
  have:=e3.size
  try simp only [Value.cells] at HB3
  replace HB2:=HB2.ext e3
  refine aa (ad Z) (ac (U (V (O zd (aa (ap zk Z (by first | exact HB3.pv | exact HB2.pv | assumption) Z) ?_)))))
  refine aa (cC (by simp [ev];rfl) (by simp [ev];rfl)) ?_
  replace HG1:=(HG1.ext e2).ext e3
  replace HS2:=(HS2.ext e2).ext e3
  refine ah (aW zk (aZ Z) (show _=(Value.func _ _ _) from Z) (ae.mono (te (cap:=#[.pointer (some ⟨b3,0,none⟩)]) HG1 zk (fun W G u r e h=>rH h (HB3.ext e) (HS2.ext e))) ?_))
  rintro _ w101 ⟨rfl,e101⟩
  have:=e101.size
  refine aa (bO Z) (ac (U (aw (aU Z zq (bB Z) ?_))))
  replace E:=((E.trans e2.keep).trans e3.keep).trans e101.keep
  exact ⟨rfl,E⟩
theorem tJ {w:World} {F G:Nat→Prop} {v kv:Value} {e:Int} {rs:List cO} {k:List UInt8} (HG1:aY li w F v (e,rs)) (HS2:Bv w G kv k):ae Tryz.prog 39 #[v,kv] w (fun o w'=>(∃ x,o=.tuple #[x,.int .i64 (dP (dZ (e,rs) (mq k)))]∧aY dv w' (fun b=>w.heap.size≤b) x (kb rs (dZ (e,rs) (mq k))))∧aX w w'):=by
 obtain ⟨a,c,rfl,HSr,he⟩:=HG1.mp
 obtain ⟨a3,c3,rfl⟩:=HS2.shape
 refine aL 20 Tryz.func39 Z Z (by simp) ?_
 refine V ?_
 have E:=ao.refl (K:=aP) w
 replace HG1:=HG1.all
 replace HS2:=HS2.all
 replace HSr:=HSr.all
 refine O zd (ah (aS (aZ Z) ?_))
 rintro b2 w2 zb2 HB2 e2 z2
 have:=e2.size
 try simp only [Value.cells] at HB2
 refine ah (aS (bI Z) ?_)
 rintro b3 w3 zb3 HB3 e3 z3
 have:=e3.size
 try simp only [Value.cells] at HB3
 refine ah (aD (z:=(.agg #[.slice none 0 0,.slice none 0 0,.bool false,.int .i64 0])) (by unfold aE;kernel_rfl) ?_)
 rintro b4 w4 zb4 HB4 e4 z4
 have:=e4.size
 try simp only [Value.cells] at HB4
 replace HB2:=(HB2.ext e3).ext e4
 replace HB3:=HB3.ext e4
 refine aa (ad Z) (ac (U (V (O zd (aa (ap zk Z (by first | exact HB4.pv | exact HB3.pv | exact HB2.pv | assumption) Z) ?_)))))
 refine aa (cC (by simp [ev];rfl) (by simp [ev];rfl)) ?_
 replace HG1:=((HG1.ext e2).ext e3).ext e4
 replace HS2:=((HS2.ext e2).ext e3).ext e4
 refine ah (aW zk (aZ Z) (show _=(Value.func _ _ _) from Z) (ae.mono (te (cap:=#[.pointer (some ⟨b3,0,none⟩)]) HG1 zk (fun W G u r e h=>uE h (HB3.ext e) (HS2.ext e))) ?_))
 rintro _ w101 ⟨rfl,e101⟩
 have:=e101.size
 refine aa (bO Z) (ac (U (V (V (O zd (aa (aQ Z) (aa (bw Z Z) ?_)))))))
 replace E:=(((E.trans e2.keep).trans e3.keep).trans e4.keep).trans e101.keep
 replace HSr:=(((HSr.ext e2).ext e3).ext e4).ext e101
 replace HG1:=HG1.ext e101
 replace HS2:=HS2.ext e101
 replace HB2:=HB2.ext e101
 replace HB3:=HB3.ext e101
 replace HB4:=HB4.ext e101
 refine ac (U (am Z Z (fun hc=>?_) (fun hc=>?_)))
 ·
  refine V (O zd (aa (aV (pl:=[(0,1),(1,1),(2,1),(3,1)]) (z:=.agg #[.slice none 0 0,.slice none 0 0,.bool false,.int .i64 0]) (zl:=[.slice none 0 0,.slice none 0 0,.bool false,.int .i64 0]) zk (by unfold aE;kernel_rfl) Z Z (cells:=[_,_,_,_]) Z) ?_))
  refine ah (aq (n:=4) Z Z (aZ Z) zk Z cT HB4 bV ?_)
  rintro w102 HB4 k102 z102
  have:=k102.size
  try simp only [zS,Nat.zero_add,Nat.reduceAdd,List.drop_nil] at HB4
  refine aa (ad Z) (ac (U (aw (ay (bL (n:=4) Z zq zq Z zk HB4.pv Z (bB Z) ?_)))))
  have h:=iW.1 (bl hc)
  rw [h]
  replace E:=E.step k102 bi
  exact ⟨⟨_,rfl,aY.mkRg (bs.nil _ _ _) (bs.nil _ _ _) zo⟩,E⟩
 obtain ⟨i,hi⟩:∃ i,dZ (e,rs) (mq k)=some i:=by
  cases h:dZ (e,rs) (mq k) with
  | none=>rw [h] at hc;simp [dP] at hc
  | some i=>exact ⟨i,rfl⟩
 obtain ⟨hm,hlt,_⟩:=ku hi
 simp only at hlt
 obtain ⟨h24,h25,_⟩:=eA hm _ (fX (l:=rs) hlt)
 rw [hi]
 obtain ⟨q,cs,hq,hF,_,HPq,hr⟩:=HSr.el (fR hlt)
 subst hq
 have HG5:aY dv _ _ _ (rs.getD i fV):=⟨cs,rfl,hr⟩
 obtain ⟨b5,d5,b6,d6,rfl,_,_,hg⟩:=bN hr
 refine ar (U (V (O zd (aa (aA 1 22 Z) (aa (ag zk Z (by first | exact HPq 1 _ rfl | exact aK HPq | exact HB4.pv 1 _ rfl | exact HB3.pv 1 _ rfl | exact HB2.pv 1 _ rfl | assumption)) ?_)))))
 refine aa (aQ Z) (aa (aF (et:=53) (sz:=4) (k:=i) zk zk Z Z (rfl) (hlt)) ?_)
 refine aa (ap zk Z (by first | exact HPq | exact HB4.pv | exact HB3.pv | exact HB2.pv | assumption) Z) ?_
 refine ah (av zk (aZ Z) (ae.mono (qH HG5 zo zo) ?_))
 rintro v8 w8 ⟨HG8,e8⟩
 have:=e8.size
 obtain ⟨a8,c8,a9,c9,rfl,HS8,HS9,hg8⟩:=HG8.rg
 replace HB4:=HB4.ext e8
 refine aa (aQ Z) (ah (aq (n:=4) Z Z (aZ Z) zk Z cT HB4 bV ?_))
 rintro w103 HB4 k103 z103
 have:=k103.size
 try simp only [zS,Nat.zero_add,Nat.reduceAdd,List.drop_nil] at HB4
 refine aa (bO Z) (ac (U (aw (bL (n:=4) Z zq zq Z zk HB4.pv Z (bB Z) ?_))))
 replace E:=(E.trans e8.keep).step k103 bi
 replace HG8:=HG8.keep k103 aC
 exact ⟨⟨_,rfl,HG8.mono fun b _ h=>by omega⟩,E⟩
end Go.Proofs.YteehplloacefmaaGreat
