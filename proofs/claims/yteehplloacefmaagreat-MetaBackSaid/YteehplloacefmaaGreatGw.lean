/- Steps and lemmas for the walks. -/
import Derived.Test.YteehplloacefmaaGreatGc
import Derived.Test.YteehplloacefmaaGreatProg
set_option linter.unusedVariables false
set_option maxRecDepth 100000
namespace Go.Proofs.YteehplloacefmaaGreat
open Go.Vc
abbrev iF:Nat:=5
abbrev ef:Nat:=109
theorem cU {w:World} {b:Nat} {a:Option Addr} {n c:Nat} (h:dh w b [.slice a n c] ef):ae Tryz.prog 63 #[.pointer (some ⟨b,0,none⟩)] w (fun r w'=>r=.bool a.isNone∧aX w w'):=by
  refine aL 12 Tryz.func63 Z Z (by simp) ?_
  refine V (O zd (aa (ad Z) (ac (U (V (O zd (aa (bK Z) (aa (uZ (et:=109) zk Z Z) ?_))))))))
  refine aa (bH Z) (aj Z Z (fun hG=>bK Z) (aj Z Z (fun hG=>aM (gd hG Z)) ?_))
  refine aj Z Z (fun hG=>aA 0 28 (gd hG Z)) ?_
  refine aj Z Z (fun hG=>ag zk (gd hG Z) (h.pv 0 _ Z)) ?_
  refine aj Z Z (fun hG=>lF (et:=5) zk (gd hG Z) Z) ?_
  refine aa (bF Z Z) ?_
  refine aa (dl Z) (ac (U (aw (ke Z zq ?_))))
  exact ⟨rfl,ao.refl _⟩
theorem qc {w:World} {B:Nat} {a0:Option Addr} {c0:Nat} {l:List UInt8} {n:Nat} {x:Int} (hx:x=(n:Nat)) (hv:ck cw iF w B aP (.slice a0 l.length c0) l) (hB:B≤w.heap.size) (hn:n < 18446744073709551616) (hl:l.length + 10≤140737488355328) :
    ae Tryz.prog 59 #[.slice a0 l.length c0,.int .u64 x] w (fun r w'=>∃ a c,r=.slice a (l ++ aT n).length c∧ck cw iF w' B aP r (l ++ aT n)∧ao (fun b=>(Value.slice a0 l.length c0).ownBlock=some b) w w'∧(∀ b,r.ownBlock=some b→(Value.slice a0 l.length c0).ownBlock=some b∨w.heap.size≤b)∧∃ q,a=some q):=by
 subst hx
 have hlen:=bA hn
 obtain ⟨w0,rfl⟩:∃ x,x=w:=⟨w,rfl⟩
 refine aL 21 Tryz.func59 Z Z (by simp) ?_
 refine V (O zd (aa (ad Z) (ac (U (V (aO (cy (τ:=Option Addr × Nat × List UInt8 × Nat) [0,1,5,6,7,8,9,10,11,12,13,14,15] (fun (a,c,l',n')=>[(0,.slice a l'.length c),(1,.int .u64 n')]) (fun (a,c,l',n') w=>ck cw iF w B aP (.slice a l'.length c) l'∧B≤w.heap.size∧n'≤n∧l' ++ aT n'=l ++ aT n∧ao (fun b=>(Value.slice a0 l.length c0).ownBlock=some b) w0 w∧(∀ b,(Value.slice a l'.length c).ownBlock=some b→(Value.slice a0 l.length c0).ownBlock=some b∨w0.heap.size≤b)) (fun (a,c,l',n')=>n') (a0,c0,l,n) (by exact ⟨rfl,rfl,trivial⟩) (by exact ⟨hv,hB,Nat.le_refl _,rfl,ao.refl _,fun b hb=>.inl (hb)⟩) ?_)))))))
 rintro ⟨a,c,l',n'⟩ w1 j ⟨h1,h2,h3,h4,h5,h6⟩
 refine V (V (O zd (aa (aQ Z) (aa (fc Z Z) ?_))))
 refine ac (U (am Z Z (fun hc=>?_) (fun hc=>?_)))
 ·
  have hz1:=h5.size
  have hll:=congrArg List.length h4
  simp only [List.length_append] at hll
  have hep:=jW n'
  have hge:128≤n':=by have:=bl hc;omega
  refine ar (U (aO (O zd (aa (bP Z) (aa (aQ Z) (aa (uI Z Z zq (by first | exact uL zo | rfl)) ?_))))))
  refine aa (bS (ds:=.int .u64) zk zk Z (by first | exact uH zo zo | rfl)) ?_
  refine aa (vZ Z Z (by first | exact vq zo zo | rfl)) ?_
  refine ah (cp (t:=cw) (et:=5) (bytes:=1) zk zq (bB Z) (sy (F:=aP) (UInt8.ofNat (128 + n' % 128)) (by rw [wL zo];omega)) ?_)
  rintro b2 w2 rfl hs e2 z2
  have:=e2.size
  refine ah (cv (et:=5) (bytes:=1) zk (bI Z) (h1.ext e2) (bI Z) (hs.view) (iy.to) (by first | omega | (simp;done) | (simp;omega)) (by simp only [maxLen];first | omega | (simp;done) | (simp;omega)) zo ?_)
  rintro a3 n3 c3 w3 o3 hn3 k3 b3 i3
  have:=k3.size
  subst hn3
  refine aa (aQ Z) (aa (vY Z Z zq (by first | exact vf zo zo zq | rfl)) ?_)
  refine aa (cF Z) (aa (bO Z) (ac (bE (U (⟨(a3,c3,l' ++ [UInt8.ofNat (128 + n' % 128)],n' / 128),_,rfl,by (repeat (first | exact cD.of_over _ _ _ | refine cD.upd ?_ zq _ | refine cD.overs ?_ zq _)),⟨by first | rfl | exact congrArg (Value.int _) zo | (simp;done),by first | rfl | exact congrArg (Value.int _) zo | (simp;done),trivial⟩,?_,?_⟩)))))
  ·
   have hz3:=k3.size
   refine ⟨o3,by omega,by omega,?_,(h5.step e2 (fun _ _ x=>x.elim)).step k3 (fun b hb h=>(h6 b h).resolve_right zo),fun b hb=>(b3 b hb).elim (h6 b) (fun h=>.inr (by have:=h5.size;omega))⟩
   rw [List.append_assoc,← h4,jX hge];rfl
  dsimp only;omega
 have hep:=jW n'
 have hlt:n' < 128:=by have:=bf hc;omega
 have hll:=congrArg List.length h4
 simp only [List.length_append] at hll
 have hee:l' ++ [UInt8.ofNat n']=l ++ aT n:=by rw [← h4,jn hlt]
 refine cl (bm (bm (cV (U (V (O zd (aa (bP Z) (aa (aQ Z) (aa (bS (ds:=.int .u64) zk zk Z (by first | exact uH zo zo | rfl)) ?_)))))))))
 refine ah (cp (t:=cw) (et:=5) (bytes:=1) zk zq (bB Z) (sy (F:=aP) (UInt8.ofNat n') (by rw [wL zo])) ?_)
 rintro b2 w2 rfl hs e2 z2
 have:=e2.size
 refine ah (cv (et:=5) (bytes:=1) zk (bI Z) (h1.ext e2) (bI Z) (hs.view) (iy.to) (by first | omega | (simp;done) | (simp;omega)) (by simp only [maxLen];first | omega | (simp;done) | (simp;omega)) zo ?_)
 rintro a3 n3 c3 w3 o3 hn3 k3 b3 i3
 have:=k3.size
 subst hn3
 refine aa (cF Z) (ac (U (aw (ke Z zq ?_))))
 refine ⟨a3,c3,?_,?_,(h5.step e2 (fun _ _ x=>x.elim)).step k3 (fun b hb h=>(h6 b h).resolve_right zo),fun b hb=>(b3 b hb).elim (h6 b) (fun h=>.inr (by have:=h5.size;omega)),?_⟩
 ·
  show Value.slice a3 _ c3=_;rw [List.length_append,← hee,List.length_append]
 ·
  rw [← hee];exact o3
 cases a3 with
 | some q=>exact ⟨q,rfl⟩
 | none=>exact absurd (i3.1 rfl).2 (by simp)
end Go.Proofs.YteehplloacefmaaGreat
namespace Go.Proofs.YteehplloacefmaaGreat
open Go.Vc
theorem ew {w:World} {n:Nat} (hn:n < 18446744073709551616):ae Tryz.prog 22 #[.int .u64 n] w (fun r w'=>ck cw iF w' w.heap.size aP r (aT n)∧(∃ q c,r=.slice (some q) (aT n).length c)∧aX w w'):=by
  refine aL 5 Tryz.func22 Z Z (by simp) ?_
  refine V (O zd (aa (ad Z) (ac (U (V (O zd (aa (aQ Z) (ah (aW zk (bI Z) (bB Z) (ae.mono (qc (l:=[]) (n:=n) Z (ck.nil _ _ _ _ _) (Nat.le_refl _) hn (by simp)) ?_))))))))))
  rintro _ w1 ⟨a,c,rfl,o1,k1,b1,q,rfl⟩
  have:=k1.size
  have k2:aX w w1:=k1.mono fun b _ h=>by simp [Value.ownBlock] at h
  refine aa (cF Z) (ac (U (aw (ke Z zq ?_))))
  exact ⟨o1,⟨q,c,rfl⟩,k2⟩
theorem dT {w:World} {v:Value} {F:Nat→Prop} {l:List UInt8} (hv:Bv w F v l) (hl:l.length≤140737488355300):ae Tryz.prog 20 #[v] w (fun r w'=>ck cw iF w' w.heap.size aP r (az l)∧(∃ q c,r=.slice (some q) (az l).length c)∧aX w w'):=by
  obtain ⟨a,c,rfl⟩:=hv.shape
  have hw:=bA (n:=l.length) zo
  refine aL 13 Tryz.func20 Z Z (by simp) ?_
  refine V (O zd (aa (ad Z) (ac (U (V (O zd (aa (bP Z) (aa (ba (et:=5) zk Z) ?_))))))))
  refine aa (cn Z Z (by first | exact bn zo zo | rfl)) ?_
  refine ah (nF (et:=5) (bytes:=1) zk (t:=cw) (z:=0) (n:=0) (m:=l.length + 10) (zv:=.int .u8 0) Z Z (.inr Z) zo (by simp only [maxLen];omega) (by unfold aE;kernel_rfl) Z Z (fun _ _=>Z) ?_)
  rintro b1 c1 w1 rfl o1 e1 z1
  have:=e1.size
  refine aa (bP Z) (aa (ba (et:=5) zk Z) ?_)
  refine aa (bS (ds:=.int .i64) zk zk Z (by first | exact cq zo zo | rfl)) ?_
  refine ah (aW zk (bI Z) (bB Z) (ae.mono (qc (l:=[]) (n:=l.length) Z o1 zo zo (by simp)) ?_))
  rintro _ w2 ⟨a2,c2,rfl,o2,k2,b2,q2,rfl⟩
  have:=k2.size
  have kk:aX w w2:=e1.step k2 fun b hb h=>by simp [Value.ownBlock] at h;omega
  refine aa (bP Z) (ah (cv (et:=5) (bytes:=1) zk (bI Z) o2 (bI Z) (hv.ext kk) (iy.to) (by first | omega | (simp;done) | (simp;omega)) (by simp only [maxLen];first | omega | (simp;done) | (simp;omega)) zo ?_))
  rintro a3 n3 c3 w3 o3 hn3 k3 b3 i3
  have:=k3.size
  subst hn3
  have kk3:aX w w3:=kk.step k3 fun b hb h=>by have:=(o2.own_lt h).1;omega
  refine aa (cF Z) (ac (U (aw (ke Z zq ?_))))
  refine ⟨o3,?_,kk3⟩
  cases a3 with
  | some q=>exact ⟨q,c3,rfl⟩
  | none=>exact absurd (i3.1 rfl).1 (by simp)
end Go.Proofs.YteehplloacefmaaGreat
namespace Go.Proofs.YteehplloacefmaaGreat
open Go.Vc
theorem p5 {w:World} {is:Bool}:ae Tryz.prog 21 #[.bool is] w (fun r w'=>ck cw iF w' w.heap.size aP r (dk is)∧(∃ q c,r=.slice (some q) (dk is).length c)∧aX w w'):=by
 refine aL 12 Tryz.func21 Z Z (by simp) ?_
 refine V (O zd (aa (ad Z) (ac (U (V (O zd (ah (nF (et:=5) (bytes:=1) zk (t:=cw) (z:=0) (n:=1) (m:=1) (zv:=.int .u8 0) Z Z (.inl Z) zo (by simp only [maxLen];omega) (by unfold aE;kernel_rfl) Z Z (fun _ _=>Z) ?_))))))))
 rintro b1 c1 w1 rfl o1 e1 z1
 have:=e1.size
 refine aa (cF Z) (ac (U (V (V (O zd (aa (bH Z) (ac (U (am Z Z (fun hc=>?_) (fun hc=>?_))))))))))
 ·
  refine O zd (aa (bP Z) (aa (aF (et:=5) (sz:=1) (k:=0) zk zk Z Z (by first | rfl | omega) zo) ?_))
  refine aa (ag zk Z (o1.cell1 (k:=0) (xx:=0) Z)) ?_
  refine aa (cn (t:=1) Z Z zq) ?_
  refine aa (aF (et:=5) (sz:=1) (k:=0) zk zk Z Z (by first | rfl | omega) zo) ?_
  refine ah (hC (k:=0) (off:=0) Z (by simp [eE]) (by first | decide | exact (of_decide_eq_true rfl:0 < 2)) (bB Z) Z zk o1 (x0:=0) (x1:=1) Z (fun cs h=>by cases h;exact (rfl:[Value.int .u8 1]=[Value.int .u8 1])) ?_)
  rintro w2 o2 k2 z2
  have:=k2.size
  refine ac (U (V (O zd (aa (bP Z) (aa (cF Z) (ac (U (aw (ke Z zq ?_)))))))))
  refine ⟨?_,⟨_,_,rfl⟩,e1.step k2 (fun b hb h=>by omega)⟩
  subst hc;exact o2
 refine ar (U (V (O zd (aa (bP Z) (aa (cF Z) (ac (U (aw (ke Z zq ?_)))))))))
 refine ⟨?_,⟨_,_,rfl⟩,e1⟩
 subst hc;exact o1
theorem oC {ls:List (List UInt8)} {k:Nat} {x:List UInt8} (h:ls[k]? = some x):(ls.take (k + 1)).flatten=(ls.take k).flatten ++ x:=by
  rw [List.take_add_one,h];simp
theorem lc (ls:List (List UInt8)) (k:Nat):(ls.take k).flatten.length≤ls.flatten.length:=by
  have:ls.flatten=(ls.take k).flatten ++ (ls.drop k).flatten:=by rw [← List.flatten_append,List.take_append_drop]
  rw [this,List.length_append];omega
theorem dN {w:World} {v:Value} {F:Nat→Prop} {ls:List (List UInt8)} (hv:bs (dB cw) w F v ls) (hl:ls.flatten.length≤140737488355300):ae Tryz.prog 19 #[v] w (fun r w'=>ck cw iF w' w.heap.size aP r ls.flatten∧(∃ q c,r=.slice (some q) ls.flatten.length c)∧aX w w'):=by
 obtain ⟨a,c,rfl⟩:=hv.shape
 have hmx:=hv.max
 simp only [maxLen] at hmx
 obtain ⟨w0,rfl⟩:∃ x,x=w:=⟨w,rfl⟩
 refine aL 33 Tryz.func19 Z Z (by simp) ?_
 refine V (O zd (aa (ad Z) (ac (U (V (O zd (aa (ad Z) (ac (U ?_)))))))))
 refine V (V (O zd (aa (bP Z) (aa (ba (et:=28) zk Z) ?_))))
 refine aa (be Z) (ac (U (aO (cy (τ:=Nat) [3,5,11,12,13,14,15,16,17,18,19] (fun k=>[(3,.int .i64 (ls.take k).flatten.length),(11,.int .i64 k)]) (fun k w=>w=w0∧k≤ls.length) (fun k=>ls.length - k) 0 (by exact ⟨rfl,rfl,trivial⟩) (by exact ⟨rfl,Nat.zero_le _⟩) ?_))))
 rintro k w1 j ⟨rfl,h1⟩
 refine V (O zd (aa (bw Z Z) ?_))
 refine ac (U (V (am Z Z (fun hc=>?_) (fun hc=>?_))))
 ·
  have hc:=bl hc
  obtain ⟨x,hx⟩:∃ x,ls[k]? = some x:=⟨ls[k]'zo,by simp [show k < ls.length by omega]⟩
  have hs:=oC hx
  have hs2:=lc ls (k + 1)
  have hs3:=congrArg List.length hs
  rw [List.length_append] at hs3
  refine ar (U (V (aO (V (O zd (ah (ed (et:=28) zk zk (bI Z) hv (bB Z) Z hx ?_)))))))
  rintro q cs hF hp ⟨v1,rfl,hv1⟩
  obtain ⟨a1,c1,rfl⟩:=hv1.shape
  refine aa (ag zk Z (aK hp)) ?_
  refine aa (cF Z) (ac (U (O zd (aa (aQ Z) (aa (bP Z) (aa (ba (et:=5) zk Z) ?_))))))
  refine aa (cn Z Z (by first | exact bn zo zo | rfl)) ?_
  refine aa (bO Z) (ac (bE (U (O zd (aa (cn Z Z (by first | exact bn zo zo | rfl)) ?_)))))
  refine aa (aQ Z) (ac (U (⟨k + 1,_,rfl,by (repeat (first | exact cD.of_over _ _ _ | refine cD.upd ?_ zq _ | refine cD.overs ?_ zq _)),⟨by first | rfl | exact congrArg (Value.int _) zo | (simp;done),by first | rfl | exact congrArg (Value.int _) zo | (simp;done),trivial⟩,?_,?_⟩)))
  ·
   exact ⟨rfl,by omega⟩
  dsimp only;omega
 have hc:=bf hc
 obtain rfl:k=ls.length:=by omega
 have hfl:(ls.take ls.length).flatten=ls.flatten:=by rw [List.take_length]
 refine cl (bm (bm (cV (U (V (O zd (aa (aQ Z) (ah (nF (et:=5) (bytes:=1) zk (t:=cw) (z:=0) (n:=0) (m:=(ls.take ls.length).flatten.length) (zv:=.int .u8 0) Z Z (.inr Z) (by rw [hfl];omega) (by rw [hfl];simp only [maxLen];omega) (by unfold aE;kernel_rfl) Z Z (fun _ _=>Z) ?_)))))))))
 rintro b1 c1 w2 rfl o1 e1 z1
 have:=e1.size
 refine aa (cF Z) (ac (U (V (V (O zd (aa (bP Z) (aa (ba (et:=28) zk Z) ?_)))))))
 refine aa (be Z) (ac (U (aO (cy (τ:=Addr × Nat × Nat) [6,8,24,25,26,27,28,29,30,31] (fun (a2,c2,k)=>[(6,.slice (some a2) (ls.take k).flatten.length c2),(24,.int .i64 k)]) (fun (a2,c2,k) w=>ck cw iF w w1.heap.size aP (.slice (some a2) (ls.take k).flatten.length c2) (ls.take k).flatten∧aX w1 w∧k≤ls.length) (fun (a2,c2,k)=>ls.length - k) (⟨w1.heap.size,0,none⟩,c1,0) (by exact ⟨rfl,rfl,trivial⟩) (by exact ⟨o1,e1,Nat.zero_le _⟩) ?_))))
 rintro ⟨a2,c2,k⟩ w3 j2 ⟨o2,e2,h2⟩
 refine V (O zd (aa (bw Z Z) ?_))
 refine ac (U (V (am Z Z (fun hc2=>?_) (fun hc2=>?_))))
 ·
  have hc2:=bl hc2
  have hz2:=e2.size
  obtain ⟨x,hx⟩:∃ x,ls[k]? = some x:=⟨ls[k]'zo,by simp [show k < ls.length by omega]⟩
  have hs:=oC hx
  have hs2:=lc ls (k + 1)
  have hs3:=congrArg List.length hs
  rw [List.length_append] at hs3
  refine ar (U (V (aO (V (O zd (ah (ed (et:=28) zk zk (bI Z) (hv.ext e2) (bB Z) Z hx ?_)))))))
  rintro q cs hF hp ⟨v1,rfl,hv1⟩
  obtain ⟨a1,c1,rfl⟩:=hv1.shape
  refine aa (ag zk Z (aK hp)) ?_
  refine aa (cF Z) (ac (U (O zd (aa (bP Z) (aa (bP Z) (ah (cv (et:=5) (bytes:=1) zk (bI Z) o2 (bI Z) hv1 (iy.to) (by first | omega | (simp;done) | (simp;omega)) (by simp only [maxLen];first | omega | (simp;done) | (simp;omega)) zo ?_)))))))
  rintro a3 n3 c3 w4 o3 hn3 k3 b3 i3
  have:=k3.size
  subst hn3
  have e3:aX w1 w4:=e2.step k3 fun b hb h=>by have:=(o2.own_lt h).1;omega
  rw [← hs] at o3 ⊢
  obtain ⟨q3,rfl⟩:∃ q,a3=some q:=by
   cases a3 with
   | some q=>exact ⟨q,rfl⟩
   | none=>exact absurd (i3.1 rfl).1 (by simp)
  refine aa (cF Z) (ac (bE (U (O zd (aa (cn Z Z (by first | exact bn zo zo | rfl)) ?_)))))
  refine aa (aQ Z) (ac (U (⟨(q3,c3,k + 1),_,rfl,by (repeat (first | exact cD.of_over _ _ _ | refine cD.upd ?_ zq _ | refine cD.overs ?_ zq _)),⟨by first | rfl | exact congrArg (Value.int _) zo | (simp;done),by first | rfl | exact congrArg (Value.int _) zo | (simp;done),trivial⟩,?_,?_⟩)))
  ·
   exact ⟨o3,e3,by omega⟩
  dsimp only;omega
 have hc2:=bf hc2
 obtain rfl:k=ls.length:=by omega
 refine cl (bm (bm (cV (U (V (O zd (aa (bP Z) (aa (cF Z) (ac ?_)))))))))
 refine U (aw (ke Z zq ?_))
 rw [hfl] at o2
 exact ⟨by show ck _ _ _ _ _ (Value.slice (some a2) (ls.take ls.length).flatten.length c2) _;rw [hfl];exact o2,⟨a2,c2,by show Value.slice (some a2) (ls.take ls.length).flatten.length c2=_;rw [hfl]⟩,e2⟩
theorem mJ {w:World} {v:Value} {F:Nat→Prop} {l:List UInt8} (hv:Bv w F v l) (hl:l.length≤140737488355300):ae Tryz.prog 27 #[v] w (fun r w'=>∃ b,r=.pointer (some ⟨b,0,none⟩)∧Rd ef w' b (fun k=>w.heap.size≤k∧k < b) l∧w.heap.size≤b∧aX w w'∧b < w'.heap.size):=by
  obtain ⟨a,c,rfl⟩:=hv.shape
  refine aL 8 Tryz.func27 Z Z (by simp) ?_
  refine V (O zd (aa (ad Z) (ac (U (V (O zd (ah (jp (t:=cw) (et:=5) (bytes:=1) zk ?_))))))))
  rintro b1 w1 rfl o1 e1 z1
  have:=e1.size
  refine aa (bP Z) (ah (cv (et:=5) (bytes:=1) zk (bI Z) o1 (bI Z) (hv.ext e1) (iy.to) (by first | omega | (simp;done) | (simp;omega)) (by simp only [maxLen];first | omega | (simp;done) | (simp;omega)) zo ?_))
  rintro a2 n2 c2 w2 o2 hn2 k2 b2 i2
  have:=k2.size
  subst hn2
  have e2:aX w w2:=e1.step k2 fun b hb h=>by simp [Value.ownBlock] at h;omega
  obtain ⟨q2,rfl⟩:∃ q,a2=some q:=by
    cases a2 with
    | some q=>exact ⟨q,rfl⟩
    | none=>exact absurd (i2.1 rfl).1 (by simp)
  refine aa (aV (pl:=[(0,1)]) (z:=.agg #[.slice none 0 0]) (zl:=[.slice none 0 0]) zk (by unfold aE;kernel_rfl) Z Z (cells:=[_]) Z) ?_
  refine ah (aS (aZ Z) ?_)
  rintro b3 w3 rfl hb3 e3 z3
  have:=e3.size
  refine aa (mO Z) (ac (U (aw (ke Z zq ?_))))
  refine ⟨_,rfl,⟨q2,c2,hb3,(o2.view.mono fun b hb h=>?_).ext e3⟩,by omega,e2.trans e3,by omega⟩
  exact ⟨h.resolve_right (fun x=>x),hb⟩
theorem nA {w:World} {b:Nat} {F:Nat→Prop} {l:List UInt8} (hr:Rd ef w b F l):ae Tryz.prog 35 #[.pointer (some ⟨b,0,none⟩)] w (fun r w'=>r=.int .i64 (if l=[] then 0 else 4)∧aX w w'):=by
  obtain ⟨a,c,hb,hv⟩:=hr
  refine aL 11 Tryz.func35 Z Z (by simp) ?_
  refine V (O zd (aa (ad Z) (ac (U (V (V (O zd (aa (bK Z) (ah (av zk (ci Z) (ae.mono (cU hb) ?_)))))))))))
  rintro _ w1 ⟨rfl,e1⟩
  have:=e1.size
  refine ac (U (am Z Z (fun hc=>?_) (fun hc=>?_)))
  · skip
    cases hc
  · skip
    refine ar (U (V (V (O zd (aa (bK Z) (aa (aM Z) ?_))))))
    refine aa (aA 0 28 Z) (aa (ag zk Z ((hb.ext e1).pv 0 _ Z)) ?_)
    refine aa (ba (et:=5) zk Z) ?_
    refine aa (bD Z Z) ?_
    refine ac (U (am Z Z (fun hc2=>?_) (fun hc2=>?_)))
    · skip
      refine V (O zd (aa (ad Z) (ac (U (aw (ay (ke Z zq ?_)))))))
      refine ⟨?_,e1⟩
      have:¬ l=[]:=by rintro rfl;simp at hc2
      rw [if_neg this];rfl
    · skip
      refine ar (U (V (O zd (aa (ad Z) (ac (U (aw (ke Z zq ?_))))))))
      refine ⟨?_,e1⟩
      have:l=[]:=by cases l with
      | nil=>rfl
      | cons x l=>simp at hc2;omega
      rw [if_pos this];rfl
end Go.Proofs.YteehplloacefmaaGreat
namespace Go.Proofs.YteehplloacefmaaGreat
open Go.Vc
def ja (l:List UInt8):Value:=match cK l with
  | some (n,r)=>.tuple #[.int .u64 n,.int .i64 ((l.length - r.length:Nat):Int)]
  | none=>.tuple #[.int .u64 0,.int .i64 0]
theorem rk {l:List UInt8} {i:Nat} {c:UInt8} (h:l[i]? = some c):iM i (l.drop i)=if (i=9∧1 < c.toNat)∨(0 < i∧c.toNat=0) then none else if c.toNat < 128 then some (c.toNat,l.drop (i + 1)) else
    match iM (i + 1) (l.drop (i + 1)) with
    | some (n,r')=>some (c.toNat % 128 + 128 * n,r')
    | none=>none:=by
  have hlt:=(List.getElem?_eq_some_iff.1 h).1
  have e:l.drop i=c :: l.drop (i + 1):=by
    rw [List.drop_eq_getElem_cons hlt]
    congr 1
    exact (List.getElem?_eq_some_iff.1 h).2
  rw [e];rfl
theorem s6 {w:World} {v:Value} {F:Nat→Prop} {l:List UInt8} (hv:Bv w F v l):ae Tryz.prog 64 #[v] w (fun r w'=>r=ja l∧aX w w'):=by
 obtain ⟨a,c,rfl⟩:=hv.shape
 have hmx:=hv.max
 simp only [maxLen] at hmx
 obtain ⟨w0,rfl⟩:∃ x,x=w:=⟨w,rfl⟩
 refine aL 49 Tryz.func64 Z Z (by simp) ?_
 refine V (O zd (aa (ad Z) (aa (ad Z) (ac (U (qI (V (O zd (aa (ad Z) ?_)))))))))
 refine ac (U (V (qJ (U (V (V (O zd (aa (bP Z) (aa (ba (et:=5) zk Z) ?_)))))))))
 refine aa (be Z) (ac (U (aO (cy (τ:=Nat × Nat) [2,3,4,5,6,7,10,11,12,13,14,15,16,17,18,19,20,21,22,23,24,25,26,27,28,29,30,31,32,33,34,35,36,37,38,39,40,41,42,43,44,45,46,47,48] (fun (i,n)=>[(2,.int .u64 n),(4,.int .u64 ((128 ^ i:Nat):Int)),(10,.int .i64 i)]) (fun (i,n) w=>w=w0∧i≤l.length∧i≤9∧n < 128 ^ i∧cK l=(iM i (l.drop i)).map (fun p=>(n + 128 ^ i * p.1,p.2))) (fun (i,n)=>l.length - i) (0,0) (by exact ⟨rfl,rfl,rfl,trivial⟩) (by exact ⟨rfl,Nat.zero_le _,by omega,by simp,by simp [cK]⟩) ?_))))
 rintro ⟨i,n⟩ w1 j ⟨rfl,h1,h2,h3,h4⟩
 refine V (O zd (aa (bw Z Z) ?_))
 refine ac (U (V (am Z Z (fun hc=>?_) (fun hc=>?_))))
 ·
  have hc:=bl hc
  obtain ⟨x,hx⟩:∃ x,l[i]? = some x:=⟨l[i]'zo,by simp [show i < l.length by omega]⟩
  have hd:=rk hx
  have hp:128 ^ i≤128 ^ 9:=Nat.pow_le_pow_right zo h2
  have hx8:x.toNat < 256:=x.toNat_lt
  have hm:x.toNat % 128 * 128 ^ i + 128 ^ i≤128 * 128 ^ i:=by rw [← Nat.succ_mul];exact Nat.mul_le_mul_right _ zo
  refine ar (U (V (aO (V (O zd (aa (aQ Z) (ah (ed (et:=5) zk zk (bI Z) hv (bB Z) Z hx ?_))))))))
  rintro q cs hF hq hr
  refine aa (ag zk Z (qm hq hr)) ?_
  refine aa (bO Z) (aa (bO Z) (ac (U (V (O zd (aa (aQ Z) (aa (uI Z Z zq (by first | exact uL zo | rfl)) ?_)))))))
  refine aa (bS (ds:=.int .u8) zk zk Z (by first | exact cq zo zo | rfl)) ?_
  refine aa (bO Z) (ac (U (V (aO (V (V (O zd (aa (aQ Z) (aa (aJ Z Z) ?_)))))))))
  refine aa (bH Z) (aj Z Z (fun hG=>aQ Z) (aj Z Z (fun hG=>bX (gd hG Z) Z) ?_))
  refine aa (bu Z Z) ?_
  refine aa (dl Z) (ac (U (am Z Z (fun hb=>?_) (fun hb=>?_))))
  ·
   refine ar (U (am Z Z (fun hb2=>?_) (fun hb2=>?_)))
   ·
    refine cl (lC zq (bm (lC zq (bm (bm (cV (U (V (O zd ?_)))))))))
    refine aa (ad Z) (aa (ad Z) (ac (U (aw (lW (ee Z zq zq ?_))))))
    refine ⟨?_,ao.refl _⟩
    simp at hb
    rw [hd,if_pos (.inl zo)] at h4
    show _=ja l
    rw [ja,h4];rfl
   rw [hb] at hb2;cases hb2
  refine O zd (aa (aQ Z) (aa (bX Z Z) ?_))
  refine aa (bH Z) (aj Z Z (fun hG=>aQ Z) (aj Z Z (fun hG=>aJ (gd hG Z) Z) ?_))
  refine aa (bu Z Z) ?_
  refine aa (dl Z) (ac (U (am Z Z (fun hb2=>?_) (fun hb2=>?_))))
  ·
   refine cl (lC zq (bm (lC zq (bm (bm (cV (U (V (O zd ?_)))))))))
   refine aa (ad Z) (aa (ad Z) (ac (U (aw (lW (ee Z zq zq ?_))))))
   refine ⟨?_,ao.refl _⟩
   simp at hb2
   rw [hd,if_pos (.inr zo)] at h4
   show _=ja l
   rw [ja,h4];rfl
  have hb:¬ (i=9∧1 < x.toNat):=by simp at hb;omega
  have hb2:¬ (0 < i∧x.toNat=0):=by simp at hb2;omega
  rw [if_neg zo] at hd
  refine V (O zd (aa (aQ Z) (aa (bw Z Z) ?_)))
  refine aa (dl Z) (ac (U (am Z Z (fun hb3=>?_) (fun hb3=>?_))))
  ·
   have hb3:x.toNat < 128:=by simp at hb3;omega
   rw [if_pos hb3] at hd
   rw [hd] at h4
   have hlt:n + 128 ^ i * x.toNat < 18446744073709551616:=gy h4
   have hxm:x.toNat % 128=x.toNat:=Nat.mod_eq_of_lt hb3
   refine V (O zd (aa (aQ Z) (aa (aQ Z) (aa (aQ Z) (aa (sa (t:=((x.toNat % 128 * 128 ^ i:Nat):Int)) Z Z ((by rw [show ((x.toNat:Int) % 128) * ((128 ^ i:Nat):Int)=((x.toNat % 128 * 128 ^ i:Nat):Int) by push_cast;rfl];have hlt':=hlt;rw [Nat.mul_comm] at hlt';exact cq zo (by rw [hxm];omega)))) ?_)))))
   refine aa (cn (t:=((n + 128 ^ i * x.toNat:Nat):Int)) Z Z ((by rw [hxm,Nat.mul_comm];rw [show ((n:Nat):Int) + ((128 ^ i * x.toNat:Nat):Int)=((n + 128 ^ i * x.toNat:Nat):Int) by push_cast;rfl];exact cq zo zo))) ?_
   refine aa (aQ Z) (aa (cn Z Z (by first | exact bn zo zo | rfl)) ?_)
   refine aa (bO Z) (aa (bO Z) (ac (U (aw (bz (ay (bz (ay (ay ?_)))))))))
   refine bz (ay (lW (ee Z zq zq ?_)))
   refine ⟨?_,ao.refl _⟩
   show _=ja l
   rw [ja,h4]
   show Value.tuple #[Value.int .u64 _,Value.int .i64 _]=Value.tuple #[_,_]
   have hdl:(l.drop (i + 1)).length=l.length - (i + 1):=List.length_drop
   rw [hdl,show l.length - (l.length - (i + 1))=i + 1 by omega]
   rfl
  have hb3:¬ x.toNat < 128:=by simp at hb3;omega
  have hi8:i≤8:=by omega
  have hp8:128 ^ i≤128 ^ 8:=Nat.pow_le_pow_right zo hi8
  rw [if_neg hb3] at hd
  refine ar (bE (U (V (O zd (aa (aQ Z) (aa (aQ Z) (aa (aQ Z) (aa (sa (t:=((x.toNat % 128 * 128 ^ i:Nat):Int)) Z Z ((by rw [show ((x.toNat:Int) % 128) * ((128 ^ i:Nat):Int)=((x.toNat % 128 * 128 ^ i:Nat):Int) by push_cast;rfl];exact cq zo zo))) ?_))))))))
  refine aa (cn Z Z (by first | exact cq zo zo | rfl)) ?_
  refine aa (bO Z) (ac (U (O zd (aa (aQ Z) (aa (sa Z Z (by first | exact cq zo zo | rfl)) ?_)))))
  refine aa (bO Z) (ac (bE (U (O zd (aa (cn Z Z (by first | exact bn zo zo | rfl)) ?_)))))
  refine aa (aQ Z) (ac (U (⟨(i + 1,n + x.toNat % 128 * 128 ^ i),_,rfl,by (repeat (first | exact cD.of_over _ _ _ | refine cD.upd ?_ zq _ | refine cD.overs ?_ zq _)),⟨by first | rfl | exact congrArg (Value.int _) zo | (simp;done) | (exact congrArg (Value.int _) (by rw [Nat.pow_succ];omega)),by first | rfl | exact congrArg (Value.int _) zo | (simp;done) | (exact congrArg (Value.int _) (by rw [Nat.pow_succ];omega)),by first | rfl | exact congrArg (Value.int _) zo | (simp;done) | (exact congrArg (Value.int _) (by rw [Nat.pow_succ];omega)),trivial⟩,?_,?_⟩)))
  ·
   refine ⟨rfl,by omega,by omega,by rw [Nat.pow_succ];omega,?_⟩
   rw [h4,hd]
   cases iM (i + 1) (l.drop (i + 1)) with
   | none=>rfl
   | some p=>
    simp only [Option.map_some]
    congr 2
    rw [Nat.pow_succ,Nat.mul_add,Nat.mul_comm (128 ^ i) (x.toNat % 128),Nat.mul_assoc,Nat.add_assoc]
  dsimp only;omega
 refine cl (bm (bm (cV (U (V (O zd (aa (ad Z) (aa (ad Z) (ac ?_)))))))))
 refine U (aw (lW (ee Z zq zq ?_)))
 refine ⟨?_,ao.refl _⟩
 have hc:=bf hc
 have he:l.drop i=[]:=List.drop_eq_nil_of_le zo
 rw [he] at h4
 show _=ja l
 rw [ja,h4];rfl
end Go.Proofs.YteehplloacefmaaGreat
namespace Go.Proofs.YteehplloacefmaaGreat
open Go.Vc
def fk (l:List UInt8):Value:=match cK l with
  | some (n,_)=>.tuple #[.int .u64 n,.int .i64 0]
  | none=>.tuple #[.int .u64 0,.int .i64 4]
def ca (l:List UInt8):List UInt8:=match cK l with
  | some (_,r)=>r
  | none=>l
theorem cd {w:World} {b:Nat} {F:Nat→Prop} {l:List UInt8} (hr:Rd ef w b F l) (hF:¬ F b):ae Tryz.prog 29 #[.pointer (some ⟨b,0,none⟩)] w (fun r w'=>r=fk l∧Rd ef w' b F (ca l)∧ao (fun k=>k=b) w w'):=by
 obtain ⟨a,c,hb,hv⟩:=hr
 rcases hd:cK l with _ | ⟨n,r'⟩
 ·
  refine aL 28 Tryz.func29 Z Z (by simp) ?_
  refine V (O zd (aa (ad Z) (aa (ad Z) (ac (U (V (V (O zd (aa (bK Z) ?_)))))))))
  refine ah (av zk (ci Z) (ae.mono (cU hb) ?_))
  rintro _ w1 ⟨rfl,e1⟩
  have:=e1.size
  refine ac (U (am Z Z (fun hc=>?_) (fun hc=>?_)))
  ·
   cases hc
  refine ar (U (V (O zd (aa (bK Z) (aa (aM Z) ?_)))))
  refine aa (aA 0 28 Z) (aa (ag zk Z ((hb.ext e1).pv 0 _ Z)) ?_)
  refine ah (av zk (bI Z) (ae.mono (s6 (hv.ext e1)) ?_))
  rintro r w2 ⟨hr2,e2⟩
  have:=e2.size
  have e3:=e1.trans e2
  rw [ja,hd] at hr2
  subst hr2
  refine aa (dY Z) (aa (ai (t:=.int _ _) Z Z) (aa (ai (t:=.int _ _) Z Z) (aa (bO Z) (aa (bO Z) (ac (U (V (V (O zd ?_)))))))))
  refine aa (aQ Z) (aa (aJ Z Z) ?_)
  refine ac (U (am Z Z (fun hc2=>?_) (fun hc2=>?_)))
  ·
   refine V (O zd (aa (ad Z) (aa (ad Z) (ac (U (aw (ay (ee Z zq zq ?_))))))))
   refine ⟨?_,?_,e3.keep⟩
   ·
    show _=fk l
    rw [fk,hd];rfl
   rw [ca,hd]
   exact ⟨a,c,hb.ext e3,hv.ext e3⟩
  simp at hc2
 obtain ⟨k,hk1,hk2,hk3⟩:=ff l 0 hd
 have hk4:l.length - r'.length=k:=by rw [hk3,List.length_drop];omega
 refine aL 28 Tryz.func29 Z Z (by simp) ?_
 refine V (O zd (aa (ad Z) (aa (ad Z) (ac (U (V (V (O zd (aa (bK Z) ?_)))))))))
 refine ah (av zk (ci Z) (ae.mono (cU hb) ?_))
 rintro _ w1 ⟨rfl,e1⟩
 have:=e1.size
 refine ac (U (am Z Z (fun hc=>?_) (fun hc=>?_)))
 ·
  cases hc
 refine ar (U (V (O zd (aa (bK Z) (aa (aM Z) ?_)))))
 refine aa (aA 0 28 Z) (aa (ag zk Z ((hb.ext e1).pv 0 _ Z)) ?_)
 refine ah (av zk (bI Z) (ae.mono (s6 (hv.ext e1)) ?_))
 rintro r w2 ⟨hr2,e2⟩
 have:=e2.size
 have e3:=e1.trans e2
 rw [ja,hd] at hr2
 simp only [hk4] at hr2
 subst hr2
 refine aa (dY Z) (aa (ai (t:=.int _ _) Z Z) (aa (ai (t:=.int _ _) Z Z) (aa (bO Z) (aa (bO Z) (ac (U (V (V (O zd ?_)))))))))
 refine aa (aQ Z) (aa (aJ Z Z) ?_)
 refine ac (U (am Z Z (fun hc2=>?_) (fun hc2=>?_)))
 ·
  simp at hc2;omega
 refine ar (U (V (O zd (aa (bK Z) (aa (bK Z) (aa (aM Z) ?_))))))
 refine aa (aA 0 28 Z) (aa (ag zk Z ((hb.ext e3).pv 0 _ Z)) ?_)
 refine aa (aQ Z) (ah (jZ (et:=5) (l:=k) (h:=l.length) zk zk (bI Z) (hv.ext e3) ⟨_,by exact rfl⟩ rfl (by first | omega | (simp;done) | (simp;omega)) (by first | omega | (simp;done) | (simp;omega)) ?_))
 rintro a2 n2 c2 h2 rfl hn2
 rw [List.take_length,← hk3] at h2
 refine aa (aM Z) ?_
 refine aa (aA 0 28 Z) (ah (aR Z Z (bI Z) Z zk (hb.ext e3) (by simp) ?_))
 rintro w3 h3 k3 z3
 have:=k3.size
 refine ac (U (V (O zd (aa (aQ Z) (aa (bO Z) (aa (ad Z) (ac (U (aw ?_)))))))))
 refine ee Z zq zq ?_
 refine ⟨?_,?_,e3.keep.trans k3⟩
 ·
  show _=fk l
  rw [fk,hd];rfl
 obtain ⟨q2,rfl⟩:=hn2 a _ _ rfl
 have hrl:l.length - k=r'.length:=by rw [hk3,List.length_drop]
 rw [hrl] at h2 h3
 rw [ca,hd]
 exact ⟨q2,c2,h3,h2.keep k3 fun b' _ hb' he=>hF (by subst he;exact hb')⟩
def kr (l:List UInt8):Value:=match dM l with
  | some (f,_)=>.tuple #[.bool f,.int .i64 0]
  | none=>.tuple #[.bool false,.int .i64 4]
def iQ (l:List UInt8):List UInt8:=match dM l with
  | some (_,r)=>r
  | none=>l
theorem qw {l:List UInt8} (h:(decide ((l.length:Int)=0) == false)=true):l[0]? = some (l.headD 0):=by
  cases l with
  | nil=>simp at h
  | cons x l=>rfl
theorem nQ {w:World} {b:Nat} {F:Nat→Prop} {l:List UInt8} (hr:Rd ef w b F l) (hF:¬ F b):ae Tryz.prog 32 #[.pointer (some ⟨b,0,none⟩)] w (fun r w'=>r=kr l∧Rd ef w' b F (iQ l)∧ao (fun k=>k=b) w w'):=by
 obtain ⟨a,c,hb,hv⟩:=hr
 refine aL 38 Tryz.func32 Z Z (by simp) ?_
 refine V (O zd (aa (ad Z) (aa (ad Z) (ac (U (V (V (O zd (aa (bK Z) ?_)))))))))
 refine ah (av zk (ci Z) (ae.mono (cU hb) ?_))
 rintro _ w1 ⟨rfl,e1⟩
 have:=e1.size
 refine ac (U (am Z Z (fun hc=>?_) (fun hc=>?_)))
 ·
  cases hc
 refine ar (U (V (V (O zd (aa (bK Z) (aa (aM Z) ?_))))))
 refine aa (aA 0 28 Z) (aa (ag zk Z ((hb.ext e1).pv 0 _ Z)) ?_)
 refine aa (ba (et:=5) zk Z) ?_
 refine aa (aJ Z Z) ?_
 refine aa (bH Z) (aj Z Z (fun hG=>bK Z) (aj Z Z (fun hG=>aM (gd hG Z)) ?_))
 refine aj Z Z (fun hG=>aA 0 28 (gd hG Z)) ?_
 refine aj Z Z (fun hG=>ag zk (gd hG Z) ((hb.ext e1).pv 0 _ Z)) ?_
 refine aj Z Z (fun hG=>aF (et:=5) (sz:=1) (k:=0) zk zk (gd hG Z) Z (by first | rfl | omega) ((List.getElem?_eq_some_iff.1 (qw hG)).1)) ?_
 refine aj Z Z (fun hG=>ag zk (gd hG Z) ((hv.ext e1).at8 (k:=0) (x:=l.headD 0) (qw hG))) ?_
 refine aj Z Z (fun hG=>bX (gd hG Z) Z) ?_
 refine aa (bF Z Z) ?_
 refine ac (U (am Z Z (fun hc2=>?_) (fun hc2=>?_)))
 ·
  refine V (O zd (aa (ad Z) (aa (ad Z) (ac (U (aw (ay (ee Z zq zq ?_))))))))
  have h1:dM l=none:=by
   cases l with
   | nil=>rfl
   | cons x l=>
          have:1 < x.toNat:=by simp at hc2;omega
          simp [dM,this]
  refine ⟨?_,?_,e1.keep⟩
  ·
   show _=kr l
   rw [kr,h1];rfl
  rw [iQ,h1];exact ⟨a,c,hb.ext e1,hv.ext e1⟩
 obtain ⟨x,l',rfl⟩:∃ x l',l=x :: l':=by cases l with
 | nil=>simp at hc2
 | cons x l=>exact ⟨x,l,rfl⟩
 have h1:¬ 1 < x.toNat:=by simp at hc2;omega
 refine ar (U (V (O zd (aa (bK Z) (aa (aM Z) ?_)))))
 refine aa (aA 0 28 Z) (aa (ag zk Z ((hb.ext e1).pv 0 _ Z)) ?_)
 refine aa (aF (et:=5) (sz:=1) (k:=0) zk zk Z Z (by first | rfl | omega) (by simp)) ?_
 refine aa (ag zk Z ((hv.ext e1).at8 (k:=0) (x:=x) Z)) ?_
 refine aa (bX Z Z) ?_
 refine aa (dl Z) (ac (U (V (O zd (aa (bK Z) (aa (bK Z) (aa (aM Z) ?_)))))))
 refine aa (aA 0 28 Z) (aa (ag zk Z ((hb.ext e1).pv 0 _ Z)) ?_)
 refine ah (jZ (et:=5) (l:=1) (h:=(x :: l').length) zk zk (bI Z) (hv.ext e1) ⟨_,by exact rfl⟩ rfl (by first | omega | (simp;done) | (simp;omega)) (by first | omega | (simp;done) | (simp;omega)) ?_)
 rintro a2 n2 c2 h2 rfl hn2
 rw [List.take_length] at h2
 refine aa (aM Z) ?_
 refine aa (aA 0 28 Z) (ah (aR Z Z (bI Z) Z zk (hb.ext e1) (by simp) ?_))
 rintro w3 h3 k3 z3
 have:=k3.size
 refine ac (U (V (O zd (aa (bH Z) (aa (dl Z) (aa (ad Z) (ac (U (aw ?_)))))))))
 refine ee Z zq zq ?_
 obtain ⟨q2,rfl⟩:=hn2 a _ _ rfl
 refine ⟨?_,?_,e1.keep.trans k3⟩
 ·
  have e0:decide ((0:Int) < (x.toNat:Int))=decide (0 < x.toNat):=decide_eq_decide.2 zo
  simp only [kr,dM,h1,if_false]
  rw [← e0];rfl
 simp only [iQ,dM,h1,if_false]
 exact ⟨q2,c2,by simpa using h3,(by simpa using h2.keep k3 fun b' _ hb' he=>hF (by subst he;exact hb'))⟩
end Go.Proofs.YteehplloacefmaaGreat
namespace Go.Proofs.YteehplloacefmaaGreat
open Go.Vc
def jg {α:Type} (t:Ty α) (et eR:TypeId) (w1 w2:World) (c:Nat) (F:Nat→Prop):Except Int (List α × List UInt8)→Value→Prop
  | .ok (x,l2),r=>∃ a4 c4,r=.tuple #[.slice a4 x.length c4,.int .i64 0]∧ck t et w2 w1.heap.size (fun k=>w1.heap.size≤k) (.slice a4 x.length c4) x∧Rd eR w2 c F l2
  | .error e,r=>e≠0∧∃ a n c,r=.tuple #[.slice a n c,.int .i64 e]
def od {α:Type} (t:Ty α) (et eR:TypeId) (w w':World) (b:Nat) (F:Nat→Prop) (l:List UInt8):Except Int (List α × List UInt8)→Value→Prop
  | .ok (x,l2),r=>∃ a4 c4,r=.tuple #[.slice a4 x.length c4,.int .i64 0]∧ck t et w' w.heap.size (fun k=>w.heap.size≤k) (.slice a4 x.length c4) x∧Rd eR w' b F l2
  | .error e,r=>e≠0∧r=.tuple #[.slice none 0 0,.int .i64 e]∧Rd eR w' b F l
def bR {β:Type} (ρ:Nat→List UInt8→Except Int (β × List UInt8)) (most:Nat) (l:List UInt8):Except Int (β × List UInt8):=match cK l with
  | none=>.error 4
  | some (n,l')=>if n≤most then ρ n l' else .error 3
theorem sd {w:World} {b:Nat} {F:Nat→Prop} {l:List UInt8} {most:Int} {fr:Nat} {cap:Array Value} (hr:Rd ef w b F l) (hF:∀ k,F k→k < b) (hm:0≤most) (hm2:most≤9223372036854775807) (hb:dj Tryz.prog fr=true)
    (ρ:Nat→List UInt8→Except Int (List UInt8 × List UInt8))
    (hread:∀ (w1:World) (c:Nat) (l1:List UInt8) (n:Nat),aX w w1→w.heap.size≤c→Rd ef w1 c F l1→l1.length≤l.length→(n:Int)≤most→ae Tryz.prog fr (#[.pointer (some ⟨c,0,none⟩),.int .i64 n] ++ cap) w1 (fun r w2=>jg cw iF ef w1 w2 c F (ρ n l1) r∧ao (fun k=>k=c) w1 w2)) :
    ae Tryz.prog 61 #[.pointer (some ⟨b,0,none⟩),.int .i64 most,.func (.func fr) #[] cap] w (fun r w'=>od cw iF ef w w' b F l (bR ρ most.toNat l) r∧ao (fun k=>k=b) w w'):=by
 have hnF:¬ F b:=fun h=>absurd (hF b h) (Nat.lt_irrefl b)
 obtain ⟨a,c,hb0,hv⟩:=hr
 have hblt:=hb0.lt
 rcases hd:cK l with _ | ⟨n,l'⟩
 ·
  obtain ⟨er,her⟩:∃ er:Int,er=4:=⟨4,rfl⟩
  have htr:bR ρ most.toNat l=.error er:=by rw [bR,hd,her]
  refine aL 56 Tryz.func61 Z Z (by simp) ?_
  refine V (O zd (aa (ad Z) (aa (ad Z) (ac (U (V (O zd (aa (ad Z) (ac ?_)))))))))
  refine U (V (V (O zd (aa (bK Z) (ah (av zk (ci Z) (ae.mono (cU hb0) ?_)))))))
  rintro _ w1 ⟨rfl,e1⟩
  have:=e1.size
  refine ac (U (am Z Z (fun hc=>?_) (fun hc=>?_)))
  ·
   cases hc
  refine ar (U (V (V (O zd (aa (aQ Z) (aa (bw Z Z) ?_))))))
  refine ac (U (am Z Z (fun hc2=>?_) (fun hc2=>?_)))
  ·
   have:=bl hc2;omega
  refine ar (U (V (O zd (aa (bK Z) (aa (aM Z) ?_)))))
  refine aa (aA 0 28 Z) (aa (ag zk Z ((hb0.ext e1).pv 0 _ Z)) ?_)
  refine aa (aV (pl:=[(0,1)]) (z:=.agg #[.slice none 0 0]) (zl:=[.slice none 0 0]) zk (by unfold aE;kernel_rfl) Z Z (cells:=[_]) Z) ?_
  refine ah (aS (aZ Z) ?_)
  rintro b2 w2 rfl hb2 e2 z2
  have:=e2.size
  have e12:=e1.trans e2
  refine aa (mO Z) (ac (U (V (O zd (aa (bK Z) (ah (av zk (ci Z) (ae.mono (cd (b:=w1.heap.size) (l:=l) (F:=F) ⟨a,c,hb2,hv.ext e12⟩ (fun h=>by have:=hF _ h;omega)) ?_))))))))
  rintro r w3 ⟨hr3,h3,k3⟩
  have:=k3.size
  rw [fk,hd,← her] at hr3
  subst hr3
  have e3:aX w w3:=e12.step k3 fun i hi h=>by omega
  refine aa (dY Z) (aa (ai (t:=.int _ _) Z Z) (aa (ai (t:=.int _ _) Z Z) (aa (bO Z) (aa (bO Z) (ac (U (V (V (O zd ?_)))))))))
  refine aa (aQ Z) (aa (aJ Z Z) ?_)
  refine aa (bH Z) (aj Z Z (fun hG=>aQ Z) (aj Z Z (fun hG=>aQ Z) (aj Z Z (fun hG=>bS (ds:=.int .i64) zk zk (gd hG Z) (by first | exact cq zo zo | rfl)) ?_)))
  refine aj Z Z (fun hG=>bX (gd hG Z) (gd hG Z)) ?_
  refine aa (bu Z Z) ?_
  refine ac (U (am Z Z (fun hc3=>?_) (fun hc3=>?_)))
  ·
   simp at hc3;omega
  refine ar (U (V (V (O zd (aa (aQ Z) (aa (aJ Z Z) ?_))))))
  refine ac (U (am Z Z (fun hc4=>?_) (fun hc4=>?_)))
  ·
   have:=bl hc4;omega
  refine ar (U (V (V (O zd (aa (aQ Z) (aa (bD Z Z) ?_))))))
  refine ac (U (am Z Z (fun hc5=>?_) (fun hc5=>?_)))
  ·
   refine V (O zd (aa (bP Z) (aa (aQ Z) (aa (cF Z) (aa (bO Z) (ac (U (aw (ay ?_)))))))))
   refine ee Z zq zq ?_
   refine ⟨?_,e3.keep⟩
   rw [htr]
   exact ⟨by omega,rfl,⟨a,c,hb0.ext e3,hv.ext e3⟩⟩
  simp at hc5;omega
 have hlt:=gy hd
 have hll:l'.length≤l.length:=by obtain ⟨k,_,_,h⟩:=ff l 0 hd;rw [h,List.length_drop];omega
 obtain ⟨z,hz⟩:∃ z:Int,z=0:=⟨0,rfl⟩
 by_cases hnm:(n:Int)≤most
 ·
  have htr:bR ρ most.toNat l=ρ n l':=by rw [bR,hd];simp only [];rw [if_pos zo]
  cases hρ:ρ n l' with
  | error er=>
   refine aL 56 Tryz.func61 Z Z (by simp) ?_
   refine V (O zd (aa (ad Z) (aa (ad Z) (ac (U (V (O zd (aa (ad Z) (ac ?_)))))))))
   refine U (V (V (O zd (aa (bK Z) (ah (av zk (ci Z) (ae.mono (cU hb0) ?_)))))))
   rintro _ w1 ⟨rfl,e1⟩
   have:=e1.size
   refine ac (U (am Z Z (fun hc=>?_) (fun hc=>?_)))
   ·
    cases hc
   refine ar (U (V (V (O zd (aa (aQ Z) (aa (bw Z Z) ?_))))))
   refine ac (U (am Z Z (fun hc2=>?_) (fun hc2=>?_)))
   ·
    have:=bl hc2;omega
   refine ar (U (V (O zd (aa (bK Z) (aa (aM Z) ?_)))))
   refine aa (aA 0 28 Z) (aa (ag zk Z ((hb0.ext e1).pv 0 _ Z)) ?_)
   refine aa (aV (pl:=[(0,1)]) (z:=.agg #[.slice none 0 0]) (zl:=[.slice none 0 0]) zk (by unfold aE;kernel_rfl) Z Z (cells:=[_]) Z) ?_
   refine ah (aS (aZ Z) ?_)
   rintro b2 w2 rfl hb2 e2 z2
   have:=e2.size
   have e12:=e1.trans e2
   refine aa (mO Z) (ac (U (V (O zd (aa (bK Z) (ah (av zk (ci Z) (ae.mono (cd (b:=w1.heap.size) (l:=l) (F:=F) ⟨a,c,hb2,hv.ext e12⟩ (fun h=>by have:=hF _ h;omega)) ?_))))))))
   rintro r w3 ⟨hr3,h3,k3⟩
   have:=k3.size
   rw [fk,hd] at hr3
   simp only [] at hr3
   rw [← hz] at hr3
   subst hr3
   have e3:aX w w3:=e12.step k3 fun i hi h=>by omega
   have hrest:ca l=l':=by rw [ca,hd]
   rw [hrest] at h3
   refine aa (dY Z) (aa (ai (t:=.int _ _) Z Z) (aa (ai (t:=.int _ _) Z Z) (aa (bO Z) (aa (bO Z) (ac (U (V (V (O zd ?_)))))))))
   refine aa (aQ Z) (aa (aJ Z Z) ?_)
   refine aa (bH Z) (aj Z Z (fun hG=>aQ Z) (aj Z Z (fun hG=>aQ Z) (aj Z Z (fun hG=>bS (ds:=.int .i64) zk zk (gd hG Z) (by first | exact cq zo zo | rfl)) ?_)))
   refine aj Z Z (fun hG=>bX (gd hG Z) (gd hG Z)) ?_
   refine aa (bu Z Z) ?_
   refine ac (U (am Z Z (fun hc3=>?_) (fun hc3=>?_)))
   ·
    simp at hc3;omega
   refine ar (U (V (V (O zd (aa (aQ Z) (aa (aJ Z Z) ?_))))))
   refine ac (U (am Z Z (fun hc4=>?_) (fun hc4=>?_)))
   ·
    refine O zd (aa (jA Z) (aa (bK Z) (aa (aQ Z) (aa (bS (ds:=.int .u64) zk zk Z (by first | exact bn zo zo | rfl)) ?_))))
    refine ah (dd hb Z (ci Z) (bB Z) (ae.mono (hread w3 _ l' n e3 zo h3 hll hnm) ?_))
    rintro r4 w4 ⟨hr4,k4⟩
    have:=k4.size
    rw [hρ] at hr4
    obtain ⟨her,va,vn,vc,hr4⟩:=hr4
    subst hr4
    have e4:aX w w4:=e3.step k4 fun i hi h=>by omega
    refine aa (dY Z) (aa (ai (t:=.slice _ _ _) Z Z) (aa (ai (t:=.int _ _) Z Z) (aa (cF Z) (aa (bO Z) (ac (U (V (V (O zd ?_)))))))))
    refine aa (aQ Z) (aa (bD Z Z) ?_)
    refine ac (U (am Z Z (fun hc5=>?_) (fun hc5=>?_)))
    ·
     refine V (O zd (aa (bP Z) (aa (aQ Z) (aa (cF Z) (aa (bO Z) (ac (U (aw (ay ?_)))))))))
     refine ee Z zq zq ?_
     refine ⟨?_,e4.keep⟩
     rw [htr,hρ]
     exact ⟨her,rfl,⟨a,c,hb0.ext e4,hv.ext e4⟩⟩
    simp at hc5;omega
   have:=bf hc4;omega
  | ok xl=>
   obtain ⟨x,l2⟩:=xl
   refine aL 56 Tryz.func61 Z Z (by simp) ?_
   refine V (O zd (aa (ad Z) (aa (ad Z) (ac (U (V (O zd (aa (ad Z) (ac ?_)))))))))
   refine U (V (V (O zd (aa (bK Z) (ah (av zk (ci Z) (ae.mono (cU hb0) ?_)))))))
   rintro _ w1 ⟨rfl,e1⟩
   have:=e1.size
   refine ac (U (am Z Z (fun hc=>?_) (fun hc=>?_)))
   ·
    cases hc
   refine ar (U (V (V (O zd (aa (aQ Z) (aa (bw Z Z) ?_))))))
   refine ac (U (am Z Z (fun hc2=>?_) (fun hc2=>?_)))
   ·
    have:=bl hc2;omega
   refine ar (U (V (O zd (aa (bK Z) (aa (aM Z) ?_)))))
   refine aa (aA 0 28 Z) (aa (ag zk Z ((hb0.ext e1).pv 0 _ Z)) ?_)
   refine aa (aV (pl:=[(0,1)]) (z:=.agg #[.slice none 0 0]) (zl:=[.slice none 0 0]) zk (by unfold aE;kernel_rfl) Z Z (cells:=[_]) Z) ?_
   refine ah (aS (aZ Z) ?_)
   rintro b2 w2 rfl hb2 e2 z2
   have:=e2.size
   have e12:=e1.trans e2
   refine aa (mO Z) (ac (U (V (O zd (aa (bK Z) (ah (av zk (ci Z) (ae.mono (cd (b:=w1.heap.size) (l:=l) (F:=F) ⟨a,c,hb2,hv.ext e12⟩ (fun h=>by have:=hF _ h;omega)) ?_))))))))
   rintro r w3 ⟨hr3,h3,k3⟩
   have:=k3.size
   rw [fk,hd] at hr3
   simp only [] at hr3
   rw [← hz] at hr3
   subst hr3
   have e3:aX w w3:=e12.step k3 fun i hi h=>by omega
   have hrest:ca l=l':=by rw [ca,hd]
   rw [hrest] at h3
   refine aa (dY Z) (aa (ai (t:=.int _ _) Z Z) (aa (ai (t:=.int _ _) Z Z) (aa (bO Z) (aa (bO Z) (ac (U (V (V (O zd ?_)))))))))
   refine aa (aQ Z) (aa (aJ Z Z) ?_)
   refine aa (bH Z) (aj Z Z (fun hG=>aQ Z) (aj Z Z (fun hG=>aQ Z) (aj Z Z (fun hG=>bS (ds:=.int .i64) zk zk (gd hG Z) (by first | exact cq zo zo | rfl)) ?_)))
   refine aj Z Z (fun hG=>bX (gd hG Z) (gd hG Z)) ?_
   refine aa (bu Z Z) ?_
   refine ac (U (am Z Z (fun hc3=>?_) (fun hc3=>?_)))
   ·
    simp at hc3;omega
   refine ar (U (V (V (O zd (aa (aQ Z) (aa (aJ Z Z) ?_))))))
   refine ac (U (am Z Z (fun hc4=>?_) (fun hc4=>?_)))
   ·
    refine O zd (aa (jA Z) (aa (bK Z) (aa (aQ Z) (aa (bS (ds:=.int .u64) zk zk Z (by first | exact bn zo zo | rfl)) ?_))))
    refine ah (dd hb Z (ci Z) (bB Z) (ae.mono (hread w3 _ l' n e3 zo h3 hll hnm) ?_))
    rintro r4 w4 ⟨hr4,k4⟩
    have:=k4.size
    rw [hρ] at hr4
    obtain ⟨a4,c4,hr4,hx4,a5,c5,hb5,hv5⟩:=hr4
    subst hr4
    have e4:aX w w4:=e3.step k4 fun i hi h=>by omega
    refine aa (dY Z) (aa (ai (t:=.slice _ _ _) Z Z) (aa (ai (t:=.int _ _) Z Z) (aa (cF Z) (aa (bO Z) (ac (U (V (V (O zd ?_)))))))))
    refine aa (aQ Z) (aa (bD Z Z) ?_)
    refine ac (U (am Z Z (fun hc5=>?_) (fun hc5=>?_)))
    ·
     simp at hc5
    refine ar (U (V (O zd (aa (bK Z) (aa (bK Z) (aa (aM Z) ?_))))))
    refine aa (ap zk Z hb5.pv Z) ?_
    refine aa (aM Z) ?_
    refine ah (aq (n:=1) Z Z (aZ Z) zk Z (by first | (simp [cL];done) | (simp only [List.forall_mem_cons,List.cons_append,List.nil_append];repeat' (first | exact rfl | apply And.intro | (intro u hu;cases hu;done)))) (hb0.ext e4) bV ?_)
    rintro w5 h5 k5 z5
    have:=k5.size
    refine ac (U (V (O zd (aa (bP Z) (aa (cF Z) (aa (ad Z) (ac (U (aw ?_)))))))))
    refine ee Z zq zq ?_
    refine ⟨?_,e4.keep.trans k5⟩
    rw [htr,hρ]
    refine ⟨_,_,rfl,(hx4.base zo).mono (F':=fun k=>w.heap.size≤k) (fun i _ hi=>by omega) |>.keep k5 (fun i hi h=>?_) (fun i _ hi _ h=>by omega),a5,c5,h5,hv5.keep k5 fun i _ hi h=>hnF (by subst h;exact hi)⟩
    have:=(hx4.own_lt hi).1
    omega
   have:=bf hc4;omega
 have htr:bR ρ most.toNat l=.error 3:=by rw [bR,hd];simp only [];rw [if_neg zo]
 refine aL 56 Tryz.func61 Z Z (by simp) ?_
 refine V (O zd (aa (ad Z) (aa (ad Z) (ac (U (V (O zd (aa (ad Z) (ac ?_)))))))))
 refine U (V (V (O zd (aa (bK Z) (ah (av zk (ci Z) (ae.mono (cU hb0) ?_)))))))
 rintro _ w1 ⟨rfl,e1⟩
 have:=e1.size
 refine ac (U (am Z Z (fun hc=>?_) (fun hc=>?_)))
 ·
  cases hc
 refine ar (U (V (V (O zd (aa (aQ Z) (aa (bw Z Z) ?_))))))
 refine ac (U (am Z Z (fun hc2=>?_) (fun hc2=>?_)))
 ·
  have:=bl hc2;omega
 refine ar (U (V (O zd (aa (bK Z) (aa (aM Z) ?_)))))
 refine aa (aA 0 28 Z) (aa (ag zk Z ((hb0.ext e1).pv 0 _ Z)) ?_)
 refine aa (aV (pl:=[(0,1)]) (z:=.agg #[.slice none 0 0]) (zl:=[.slice none 0 0]) zk (by unfold aE;kernel_rfl) Z Z (cells:=[_]) Z) ?_
 refine ah (aS (aZ Z) ?_)
 rintro b2 w2 rfl hb2 e2 z2
 have:=e2.size
 have e12:=e1.trans e2
 refine aa (mO Z) (ac (U (V (O zd (aa (bK Z) (ah (av zk (ci Z) (ae.mono (cd (b:=w1.heap.size) (l:=l) (F:=F) ⟨a,c,hb2,hv.ext e12⟩ (fun h=>by have:=hF _ h;omega)) ?_))))))))
 rintro r w3 ⟨hr3,h3,k3⟩
 have:=k3.size
 rw [fk,hd] at hr3
 simp only [] at hr3
 rw [← hz] at hr3
 subst hr3
 have e3:aX w w3:=e12.step k3 fun i hi h=>by omega
 refine aa (dY Z) (aa (ai (t:=.int _ _) Z Z) (aa (ai (t:=.int _ _) Z Z) (aa (bO Z) (aa (bO Z) (ac (U (V (V (O zd ?_)))))))))
 refine aa (aQ Z) (aa (aJ Z Z) ?_)
 refine aa (bH Z) (aj Z Z (fun hG=>aQ Z) (aj Z Z (fun hG=>aQ Z) (aj Z Z (fun hG=>bS (ds:=.int .i64) zk zk (gd hG Z) (by first | exact cq zo zo | rfl)) ?_)))
 refine aj Z Z (fun hG=>bX (gd hG Z) (gd hG Z)) ?_
 refine aa (bu Z Z) ?_
 refine ac (U (am Z Z (fun hc3=>?_) (fun hc3=>?_)))
 ·
  refine O zd (aa (ad Z) (ac (U (V (V (O zd (aa (aQ Z) (aa (aJ Z Z) ?_))))))))
  refine ac (U (am Z Z (fun hc4=>?_) (fun hc4=>?_)))
  ·
   have:=bl hc4;omega
  refine ar (U (V (V (O zd (aa (aQ Z) (aa (bD Z Z) ?_))))))
  refine ac (U (am Z Z (fun hc5=>?_) (fun hc5=>?_)))
  ·
   refine V (O zd (aa (bP Z) (aa (aQ Z) (aa (cF Z) (aa (bO Z) (ac (U (aw (ay ?_)))))))))
   refine ee Z zq zq ?_
   refine ⟨?_,e3.keep⟩
   rw [htr]
   exact ⟨by omega,rfl,⟨a,c,hb0.ext e3,hv.ext e3⟩⟩
  simp at hc5
 simp at hc3;omega
end Go.Proofs.YteehplloacefmaaGreat
namespace Go.Proofs.YteehplloacefmaaGreat
open Go.Vc
def fa (n:Nat) (l:List UInt8):Except Int (List UInt8 × List UInt8):=if n≤l.length then .ok (l.take n,l.drop n) else .error 4
def br (most:Nat) (l:List UInt8):Except Int (List UInt8 × List UInt8):=bR fa most l
theorem sm {w:World} {b:Nat} {F:Nat→Prop} {l:List UInt8} {n:Nat} (hr:Rd ef w b F l) (hF:¬ F b) (hl:l.length≤140737488355300):ae Tryz.prog 62 #[.pointer (some ⟨b,0,none⟩),.int .i64 n] w (fun r w'=>jg cw iF ef w w' b F (fa n l) r∧ao (fun k=>k=b) w w'):=by
 obtain ⟨a,c,hb,hv⟩:=hr
 have hblt:=hb.lt
 by_cases hn:n≤l.length
 ·
  have hρ:fa n l=.ok (l.take n,l.drop n):=by rw [fa,if_pos hn]
  have htl:(l.take n).length=n:=List.length_take_of_le hn
  refine aL 32 Tryz.func62 Z Z (by simp) ?_
  refine V (O zd (aa (ad Z) (aa (ad Z) (ac (U (V (V (O zd (aa (aQ Z) ?_)))))))))
  refine aa (bK Z) (aa (aM Z) ?_)
  refine aa (aA 0 28 Z) (aa (ag zk Z (hb.pv 0 _ Z)) ?_)
  refine aa (ba (et:=5) zk Z) ?_
  refine aa (bX Z Z) ?_
  refine ac (U (am Z Z (fun hc=>?_) (fun hc=>?_)))
  ·
   have:=bl hc;omega
  refine ar (U (V (O zd (ah (jp (t:=cw) (et:=5) (bytes:=1) zk ?_)))))
  rintro b1 w1 rfl o1 e1 z1
  have:=e1.size
  refine aa (bK Z) (aa (aM Z) ?_)
  refine aa (aA 0 28 Z) (aa (ag zk Z ((hb.ext e1).pv 0 _ Z)) ?_)
  refine aa (aQ Z) (ah (jZ (et:=5) (l:=0) (h:=n) zk zk (bI Z) (hv.ext e1) Z ⟨_,by exact rfl⟩ (by first | omega | (simp;done) | (simp;omega)) (by first | omega | (simp;done) | (simp;omega)) ?_))
  rintro a2 n2 c2 h2 rfl hn2
  refine ah (cv (et:=5) (bytes:=1) zk (bI Z) o1 (bI Z) h2 (iy.to) (by first | omega | (simp;done) | (simp;omega)) (by simp only [maxLen];first | omega | (simp;done) | (simp;omega)) zo ?_)
  rintro a3 n3 c3 w3 o3 hn3 k3 b3 i3
  have:=k3.size
  subst hn3
  have e3:aX w w3:=e1.step k3 fun i hi h=>by simp [Value.ownBlock] at h;omega
  have hl3:([] ++ (l.take n).drop 0)=l.take n:=by simp
  rw [hl3] at o3 ⊢
  refine aa (cF Z) (ac (U (V (O zd (aa (bK Z) (aa (bK Z) (aa (aM Z) ?_)))))))
  refine aa (aA 0 28 Z) (aa (ag zk Z ((hb.ext e3).pv 0 _ Z)) ?_)
  refine aa (aQ Z) (ah (jZ (et:=5) (l:=n) (h:=l.length) zk zk (bI Z) (hv.ext e3) ⟨_,by exact rfl⟩ rfl (by first | omega | (simp;done) | (simp;omega)) (by first | omega | (simp;done) | (simp;omega)) ?_))
  rintro a4 n4 c4 h4 rfl hn4
  refine aa (aM Z) ?_
  refine aa (aA 0 28 Z) (ah (aR Z Z (bI Z) Z zk (hb.ext e3) (by simp) ?_))
  rintro w5 h5 k5 z5
  have:=k5.size
  refine ac (U (V (O zd (aa (bP Z) (aa (cF Z) (aa (ad Z) (ac (U (aw ?_)))))))))
  refine ee Z zq zq ?_
  refine ⟨?_,e3.keep.trans k5⟩
  obtain ⟨q4,rfl⟩:=hn4 a _ _ rfl
  rw [hρ]
  have hdl:l.length - n=(l.drop n).length:=by rw [List.length_drop]
  rw [List.take_length] at h4
  rw [hdl] at h4 h5
  refine ⟨_,_,rfl,(o3.mono (F':=fun k=>w.heap.size≤k) fun i _ hi=>hi.elim).keep k5 (fun i hi h=>?_) (fun i _ hi _ h=>by omega),q4,c4,h5,h4.keep k5 fun i _ hi h=>hF (by subst h;exact hi)⟩
  have:=(o3.own_lt hi).1
  omega
 have hρ:fa n l=.error 4:=by rw [fa,if_neg hn]
 refine aL 32 Tryz.func62 Z Z (by simp) ?_
 refine V (O zd (aa (ad Z) (aa (ad Z) (ac (U (V (V (O zd (aa (aQ Z) ?_)))))))))
 refine aa (bK Z) (aa (aM Z) ?_)
 refine aa (aA 0 28 Z) (aa (ag zk Z (hb.pv 0 _ Z)) ?_)
 refine aa (ba (et:=5) zk Z) ?_
 refine aa (bX Z Z) ?_
 refine ac (U (am Z Z (fun hc=>?_) (fun hc=>?_)))
 ·
  refine V (O zd (aa (ad Z) (aa (ad Z) (ac (U (aw (ay (ee Z zq zq ?_))))))))
  refine ⟨?_,ao.refl _⟩
  rw [hρ]
  exact ⟨by omega,_,_,_,rfl⟩
 have:=bf hc;omega
theorem fZ {w:World} {b:Nat} {F:Nat→Prop} {l:List UInt8} {most:Int} (hr:Rd ef w b F l) (hF:∀ k,F k→k < b) (hm:0≤most) (hm2:most≤9223372036854775807) (hl:l.length≤140737488355300) :
    ae Tryz.prog 28 #[.pointer (some ⟨b,0,none⟩),.int .i64 most] w (fun r w'=>od cw iF ef w w' b F l (br most.toNat l) r∧ao (fun k=>k=b) w w'):=by
 have hb:=hr
 obtain ⟨a0,c0,hb0,_⟩:=hb
 have hblt:=hb0.lt
 cases hρ:br most.toNat l with
 | error er=>
  refine aL 11 Tryz.func28 Z Z (by simp) ?_
  refine V (O zd (aa (ad Z) (aa (ad Z) (ac (U (V (O zd (aa (bK Z) (aa (aQ Z) ?_)))))))))
  refine ah (gM zk (ci Z) (bB Z) Z (ae.mono (sd hr hF hm hm2 zk fa (fun w1 c l1 n e1 hc1 hr1 hl1 hn1=>by simpa using sm hr1 (fun h=>by have:=hF _ h;omega) zo)) ?_))
  rintro r w1 ⟨h1,k1⟩
  have:=k1.size
  rw [show bR fa most.toNat l=.error er from hρ] at h1
  obtain ⟨her,rfl,h2⟩:=h1
  refine aa (ai (t:=.slice _ _ _) Z Z) (aa (ai (t:=.int _ _) Z Z) (aa (cF Z) (aa (bO Z) (ac (U (aw (ee Z zq zq ?_)))))))
  exact ⟨⟨her,rfl,h2⟩,k1⟩
 | ok xl=>
  obtain ⟨x,l2⟩:=xl
  refine aL 11 Tryz.func28 Z Z (by simp) ?_
  refine V (O zd (aa (ad Z) (aa (ad Z) (ac (U (V (O zd (aa (bK Z) (aa (aQ Z) ?_)))))))))
  refine ah (gM zk (ci Z) (bB Z) Z (ae.mono (sd hr hF hm hm2 zk fa (fun w1 c l1 n e1 hc1 hr1 hl1 hn1=>by simpa using sm hr1 (fun h=>by have:=hF _ h;omega) zo)) ?_))
  rintro r w1 ⟨h1,k1⟩
  have:=k1.size
  rw [show bR fa most.toNat l=.ok (x,l2) from hρ] at h1
  obtain ⟨a4,c4,rfl,h2⟩:=h1
  refine aa (ai (t:=.slice _ _ _) Z Z) (aa (ai (t:=.int _ _) Z Z) (aa (cF Z) (aa (bO Z) (ac (U (aw (ee Z zq zq ?_)))))))
  exact ⟨⟨_,_,rfl,h2⟩,k1⟩
end Go.Proofs.YteehplloacefmaaGreat
