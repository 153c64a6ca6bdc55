/- What the proof of the statement leans on (part 19). -/
import Derived.Test.YtbbjkiigpdjaaaaDoorQr

namespace Go.Proofs.YtbbjkiigpdjaaaaDoor
open Go.Proofs.Tryd
open Go Go.Lw
set_option maxRecDepth 20000 set_option maxHeartbeats 4000000
section
variable {h:af}
theorem oQ {O O':Nat->Prop}{cs:List Value}{x:Nd}(k:aA h O cs x) (hO:∀b,b<h.size->O' b->O b):aA h O' cs x:=k.mv ⟨Nat.le_refl _,fun b hb hn=>⟨rfl,fun k=>hn (hO b hb k)⟩⟩
theorem zm (s:By) (j:Nat):fl (s.drop j)=decide (p6 s j<0\/p6 s j=41\/p6 s j=124):=by
 rcases bM s j with ⟨_,hd,ha⟩|⟨c,_,_,hd,ha⟩
 · rw[hd,ha];rfl
 · rw[hd,ha];have e1:(((c.toNat:Nat):Int)=41)↔c=41:=bf rfl;have e2:(((c.toNat:Nat):Int)=124)↔c=124:=bf rfl;have h0:¬(((c.toNat:Nat):Int)<0):=by omega
   rw[Bool.eq_iff_iff];simp only[fl,Bool.or_eq_true,beq_iff_eq,decide_eq_true_eq,e1,e2,h0,false_or];exact Or.comm
theorem xy {d:Nat}(ih:uZ d) (s:By) (i:Nat) (hi:i<=s.length) (hd:(s.drop i).length<=d) (hs:s.length<=1000000):an Tryd.prog 25 #[.string (bs s),.int .i64 (i:Nat)] h (b8 fun r h'=>Ac h.size h' s (bk (d+1) (s.drop i)) r/\ak h h'):=by
 have hrl:∀{s x r},bk d s=some (x,r)->r.length<=s.length:=fun h=>gH d h
 have hrows:bk (d+1) (s.drop i)=dn (bk d) ((s.drop i).length+1) [] [] (s.drop i):=rfl;generalize htg:dn (bk d) ((s.drop i).length+1) [] [] (s.drop i)=tgt at hrows;rw[hrows];refine cV ?_;refine aa ?_;refine xo rfl (jf) ?_;rintro _ h1 ⟨rfl,hkr,he1,hz1⟩;refine aa ?_;have hkr:aB h1 h.size 49 (aX 0 0 (.slice none 0 0)):=hkr;refine fG (σ:=List Nd×List Nd×Value×Value×Nat) (fun q=>[(1,.int .i64 (q.2.2.2.2:Nat)),(6,q.2.2.1),(7,q.2.2.2.1)]) (fun q h'=>cN jg (fun b=>b<h1.size\/bw q.2.2.2.1.ownBlock b) h' h1.size 49 q.2.2.1 q.1/\cN jg (fun b=>b<h1.size\/bw q.2.2.1.ownBlock b) h' h1.size 49 q.2.2.2.1 q.2.1/\(∀b,q.2.2.1.ownBlock=some b->q.2.2.2.1.ownBlock=some b->False)/\aB h' h.size 49 (aX 0 0 (.slice none 0 0))/\ak h h'/\(q.2.2.2.2<=s.length/\i<=q.2.2.2.2/\q.1.length+q.2.1.length<=q.2.2.2.2)/\dn (bk d) ((s.drop q.2.2.2.2).length+1) q.1 q.2.1 (s.drop q.2.2.2.2)=tgt) (fun q=>s.length-q.2.2.2.2) (([],[],.slice none 0 0,.slice none 0 0,i)) ⟨cN.nil _ _ _ _ _,cN.nil _ _ _ _ _,fun b hb=>by simp[Value.ownBlock] at hb,hkr,he1,⟨hi,Nat.le_refl _,Nat.zero_le _⟩,htg⟩ rfl ?_;rintro⟨all,row,va,vr,j⟩ h5 ⟨hva,hvr,hdis,hkr5,e5,⟨hj,hij,hlens⟩,hcon⟩ ih'
 try dsimp only
 dsimp only at hva hvr hdis hj hij hlens hcon;have hz5:=hkr5.lt;have hze5:=e5.size;obtain⟨ca,ha1,ha2,ha3⟩:=id hva;obtain⟨cr,hr1,hr2,hr3⟩:=id hvr;have hoa:∀b,va.ownBlock=some b->h1.size<=b/\b<h5.size:=fun b hb=>ha2.lt hb
 have hor:∀b,vr.ownBlock=some b->h1.size<=b/\b<h5.size:=fun b hb=>hr2.lt hb
 have hdl:(s.drop j).length=s.length-j:=by simp
 have hdl0:(s.drop i).length=s.length-i:=by simp
 refine aa ?_;refine xo rfl (bz rfl (dA s j)) ?_;rintro _ h5 ⟨rfl,rfl⟩;refine aY ?_;refine eW ?_
 iterate 2 refine bT ?_
 have hre:=zm s j;rw[dn] at hcon;refine jY [(23,.bool (fl (s.drop j)))] rfl ?_ ?_
 · refine aa ?_;refine ie 16 (fun g1=>?_) (fun g1=>?_)
   · refine aa ?_;exact bH rfl ⟨au rfl (by rw[hre,eq_comm,decide_eq_true_eq];exact .inl (of_decide_eq_true g1)),sb rfl⟩
   · refine aa ?_;refine ie 20 (fun g2=>?_) (fun g2=>?_)
     · refine aa ?_;exact bH rfl ⟨au rfl (by rw[hre,eq_comm,decide_eq_true_eq];exact .inr (.inl (of_decide_eq_true g2))),sb rfl⟩
     · refine aa ?_;exact bH rfl ⟨au rfl (by rw[hre,decide_eq_decide];have g1:=of_decide_eq_false g1;have g2:=of_decide_eq_false g2;exact⟨fun k=>.inr (.inr k),fun k=>by rcases k with k|k|k;exact absurd k g1;exact absurd k g2;exact k⟩),sb rfl⟩
 · refine jX (fun hend=>?_) (fun hend=>?_)
   · rw[if_pos hend] at hcon;have hslr:aP jg h5 (fun b=>b<h1.size\/bw va.ownBlock b) vr row:=hvr.tB (fun b hb k=>by rcases k with k|k;have:=hor b hb;omega;exact hdis b k.symm hb) (fun b _ k=>k);refine aa ?_;refine xo rfl (bz rfl (rG 2 hslr)) ?_;rintro _ h6 ⟨⟨w,rfl,hnd6⟩,he6⟩;have hz6:=he6.size;have ha36:∀(i:Nat) (cs:List Value) (x:Nd),ca[i]? =some cs->all[i]? =some x->jg.R h6 (fun b=>bw va.ownBlock b\/b<h1.size) cs x:=fun i cs x h1' h2'=>aA.ah (oQ (ha3 i cs x h1' h2') (fun b _ k=>k.imp id .inl)) he6
     have hnd6':jg.R h6 (fun b=>bw va.ownBlock b\/b<h1.size) (aX (aG 2 row).kind (aG 2 row).set w) (aG 2 row):=oQ hnd6 (fun b _ k=>k.symm);refine xo rfl (y3) ?_;rintro _ _ ⟨rfl,rfl⟩;refine xo rfl (aL.eF underlying47 H.Dq rfl rfl ((ha2.rV he6)) rfl rfl (aA.one hnd6) (by omega) (by decide) (by omega)) ?_;rintro v7 h7 ⟨ho7,hx7,-,hv7⟩;refine aa ?_;have hva7:cN jg (vh h1.size) h7 h1.size 49 v7 (all++[aG 2 row]):=cN.fo ha1 ha36 ho7 hx7 hv7 hnd6';have hr7:¬bw va.ownBlock h.size:=fun k=>by have:=hoa _ k.symm;omega
     have e7:ak h h7:=⟨by have:=hx7.size;omega,fun b hb hn=>by rw[hx7.block b (by omega) (fun k=>by have:=hoa b k.symm;omega),he6.block b (by omega) (fun k=>k)];exact e5.block b hb hn⟩
     have hkr7:=(hkr5.ah he6).ext hx7 hr7;have h124:=dD s j 124;refine bF (fun hbar=>?_) (fun hbar=>?_)
     · have hbar':¬(s.drop j).head? =some 124:=fun e=>hbar (h124.2 e)
       rw[if_neg hbar'] at hcon;have hsla:aP jg h7 (vh h1.size) v7 (all++[aG 2 row]):=hva7.read (fun b hb (k:b<h1.size)=>by omega) (fun b _ k=>k);refine aa ?_;refine xo rfl (bz rfl (rG 3 hsla)) ?_;rintro _ h8 ⟨⟨w8,rfl,hnd8⟩,he8⟩;refine aa ?_;refine bN rfl (dx rfl rfl ((hkr7.ah he8)) (aA.one hnd8)) ?_;rintro _ h9 ⟨rfl,hk9,hx9,hz9⟩;refine aa ?_;have hk9:aB h9 h.size 49 (aX (aG 3 (all++[aG 2 row])).kind (aG 3 (all++[aG 2 row])).set w8):=hk9;refine jK (jI rfl hk9.row (vf jJ)) ?_;exact⟨_,rfl,by rw[<-hcon];exact⟨w8,j,hj,rfl,rfl,cO hnd8 (by omega) hx9 (fun b _ (hb:b=h.size)=>by omega)⟩,ak.only (e7.trans he8) hx9 (Nat.le_refl _)⟩
     · have hbar':=h124.1 (Classical.not_not.1 hbar)
       have hlt:j<s.length:=by
        rcases bM s j with ⟨_,hd,_⟩|⟨_,_,hlt,_,_⟩
        · rw[hd] at hbar';cases hbar'
        · exact hlt
       rw[if_pos hbar',tail_drop] at hcon
       have hcon':dn (bk d) ((s.drop (j+1)).length+1) (all++[aG 2 row]) [] (s.drop (j+1))=tgt:=by
        rw[<-hcon];exact jq hrl _ _ _ _ _ _ (Nat.le_refl _) (Nat.lt_succ_self _) (by simp only[List.length_drop];omega)
       refine aa ?_;exact ih' (all++[aG 2 row],[],v7,.slice none 0 0,j+1) ⟨hva7.o9 (Ext.refl (fun _=>False) _) (fun b _ k=>k) (fun b _ k=>k.elim) (fun b _ k=>by rcases k with k|k;exact k;simp[bw,Value.ownBlock] at k),cN.nil _ _ _ _ _,fun b _ hb=>by simp[Value.ownBlock] at hb,hkr7,e7,⟨hlt,by show i<=j+1;omega,by show (all++[aG 2 row]).length+0<=j+1;rw[List.length_append,List.length_singleton];omega⟩,hcon'⟩
   · rw[if_neg (by rw[hend];decide)] at hcon;refine aa ?_;refine xo rfl (bz rfl (wP ih s j hj (by omega) hs)) ?_;rintro _ h6 ⟨hv,he6⟩;have hz6:=he6.size;have hkr6:=hkr5.ah he6;have hpc:dh (bk d) (s.drop j)=(bP (bk d) (s.drop j)).map fun p=>cg p.1 p.2:=rfl
     rcases hp:bP (bk d) (s.drop j) with _|⟨x0,t0⟩<;>rw[hp] at hv hpc
     · obtain⟨k,st,w,hw,rfl⟩:=hv;have hnone:tgt=none:=by rw[<-hcon,hpc];rfl
       rw[hnone];refine aa ?_;refine xo rfl (jf) ?_;rintro _ h7 ⟨rfl,hk7,he7,hz7⟩;refine bN rfl (dx rfl rfl hk7 (eM hw)) ?_;rintro _ h8 ⟨rfl,hk8,hx8,hz8⟩;refine aa ?_;have hk8:aB h8 h6.size 49 (aX k st w):=hk8;refine n6 rfl (by decide) ?_;refine aa ?_;refine xp rfl (gj rfl hk8.row) ?_;refine bN rfl (dx rfl rfl (((hkr6.ah he7).ext hx8 (by show ¬_=_;omega))) (eM hw)) ?_;rintro _ h9 ⟨rfl,hk9,hx9,hz9⟩;refine aa ?_;have hk9:aB h9 h.size 49 (aX k st w):=hk9;refine jK (jI rfl hk9.row (vf jJ)) ?_;exact⟨_,rfl,⟨k,st,w,hw,rfl⟩,ak.only (ak.only ((e5.trans he6).trans he7) hx8 (by omega)) hx9 (Nat.le_refl _)⟩
     · obtain⟨w0,m0,hm0,rfl,rfl,hnd⟩:=hv;have hal:=oL hrl hp;simp only[List.length_drop] at hal;have hpc:dh (bk d) (s.drop j)=some (cg x0 (s.drop m0)):=hpc;refine aa ?_;refine xo rfl (jf) ?_;rintro _ h7 ⟨rfl,hk7,he7,hz7⟩;refine bN rfl (dx rfl rfl hk7 (aA.one hnd)) ?_;rintro _ h8 ⟨rfl,hk8,hx8,hz8⟩;refine aa ?_;have hk8:aB h8 h6.size 49 (aX x0.kind x0.set w0):=hk8;have e68:ak h6 h8:=ak.only he7 hx8 (Nat.le_refl _);have e58:=he6.trans e68;have hnd8:aA h8 (fun b=>b<h5.size\/b=h6.size) (aX x0.kind x0.set w0) x0:=hnd.mv (Mv.gq e68 fun b hb hn=>⟨fun k=>k,fun k=>by have:¬b<h5.size:=hn;omega⟩);generalize hnb:h6.size=nb at hk8 hnd8;have hnb5:h5.size<=nb:=by omega
       rw[hpc] at hcon;simp only at hcon;generalize hsg:cg x0 (s.drop m0)=tg2 at hcon;refine oe rfl (by simp) ?_;refine aa ?_;refine fG (σ:=Nd×Value×Nat) (fun q=>[(10,.int .i64 (q.2.2:Nat))]) (fun q h'=>aB h' nb 49 (aX q.1.kind q.1.set q.2.1)/\aA h' (fun b=>b<h5.size\/b=nb) (aX q.1.kind q.1.set q.2.1) q.1/\ak h5 h'/\(q.2.2<=s.length/\j<q.2.2)/\cg q.1 (s.drop q.2.2)=tg2) (fun q=>s.length-q.2.2) ((x0,w0,m0)) ⟨hk8,hnd8,e58,⟨hm0,by show j<m0;omega⟩,hsg⟩ rfl ?_;rintro⟨x,w,m⟩ h8 ⟨hk8,hnd8,e8,⟨hm,him⟩,hsg⟩ ih2
       try dsimp only
       dsimp only at hk8 hnd8 hm him hsg;have hze8:=e8.size;have hlt8:=hk8.lt;refine aa ?_;refine xo rfl (bz rfl (dA s m)) ?_;rintro _ h8 ⟨rfl,rfl⟩;refine xo rfl (bz rfl (iw (p6 s m))) ?_;rintro _ h8 ⟨rfl,rfl⟩;refine aa ?_;rw[ni];refine bF (fun hgo=>?_) (fun hgo=>?_)
       · have hgo:0<bp ((s.drop m).head?.getD 0):=by omega
         have hlt:m<s.length:=by
          rcases bM s m with ⟨_,hd,_⟩|⟨_,_,hlt,_,_⟩
          · rw[hd] at hgo;exact absurd hgo (show ¬0<bp (([]:By).head?.getD 0) by decide)
          · exact hlt
         have hnext:cg (.mk (bp ((s.drop m).head?.getD 0)) 0 [x]) (s.drop (m+1))=tg2:=by
          rcases bM s m with ⟨_,hd,_⟩|⟨c,_,_,hd,_⟩
          · rw[hd] at hgo;exact absurd hgo (show ¬0<bp (([]:By).head?.getD 0) by decide)
          · rw[hd] at hgo hsg ⊢;simp only[List.head?_cons,Option.getD_some] at hgo ⊢;rw[<-hsg,oZ hgo]
         generalize hsgd:s.drop m=sg at hnext hgo;have hsl:=aP.lT (e:=jg) (t:=49) hnd8 (show ¬(h8.size<h5.size\/h8.size=nb) by omega);have ep:=Ext.push (fun _=>False) h8 (.cells (aX x.kind x.set w).toArray 49);have hn2:¬Array.size h8<=nb:=by omega
         refine aa ?_;refine Af 8 7 ?_;refine aS 0 ?_;refine aS 1 ?_;refine bL 4 rfl (fun h' e=>gj rfl (e.rowAt hn2 hk8.row)) ?_;refine E1 2 5 rfl rfl (bz rfl (dA s m)) (y3) ?_ ?_
         · rintro _ h8 ⟨rfl,rfl⟩;refine⟨fun _=>Ext.refl _ _,?_⟩;refine E1 3 5 rfl rfl (bz rfl (iw (p6 s m))) (y3) ?_ ?_
           · rintro _ h8 ⟨rfl,rfl⟩;refine⟨fun _=>Ext.refl _ _,?_⟩;refine eZ 5 rfl (y3) ?_;rintro _ _ ⟨rfl,rfl⟩;refine⟨fun _=>by first|exact Ext.push _ _ _|assumption,?_⟩;refine bL 6 rfl (fun h' e=>aq (H.nQ _ _ _ _) rfl) ?_;refine qp 7 rfl (dx rfl rfl ((hk8.ah ep)) (eM (k:=lQ (p6 s m)) (st:=0) (w:=.slice (some ⟨h8.size,0,none⟩) 1 1) rfl)) ?_;rintro _ h9 ⟨rfl,hk9,hx9,hz9⟩;refine⟨nofun,?_⟩;refine lg ?_;refine aa ?_;rw[ni,hsgd] at hk9;have hk9:aB h9 nb 49 (aX (bp (sg.head?.getD 0)) 0 (.slice (some ⟨h8.size,0,none⟩) 1 1)):=hk9;exact ih2 (.mk (bp (sg.head?.getD 0)) 0 [x],.slice (some ⟨h8.size,0,none⟩) 1 1,m+1) ⟨hk9,(aA.of (bp (sg.head?.getD 0)) 0 hsl).mv (Mv.gq hx9 fun b hb hn=>⟨fun(k:b=nb)=>hn (.inr k),hn⟩),ak.only (e8.trans ep) hx9 (by omega),⟨hlt,by show j<m+1;omega⟩,hnext⟩
           · rintro _ _ ⟨rfl,rfl⟩;refine⟨fun _=>by first|exact Ext.push _ _ _|assumption,?_⟩;refine eZ 3 rfl (bz rfl (iw (p6 s m))) ?_;rintro _ _ ⟨rfl,rfl⟩;refine⟨fun _=>Ext.refl _ _,?_⟩;refine bL 6 rfl (fun h' e=>aq (H.nQ _ _ _ _) rfl) ?_;refine qp 7 rfl (dx rfl rfl ((hk8.ah ep)) (eM (k:=lQ (p6 s m)) (st:=0) (w:=.slice (some ⟨h8.size,0,none⟩) 1 1) rfl)) ?_;rintro _ h9 ⟨rfl,hk9,hx9,hz9⟩;refine⟨nofun,?_⟩;refine lg ?_;refine aa ?_;rw[ni,hsgd] at hk9;have hk9:aB h9 nb 49 (aX (bp (sg.head?.getD 0)) 0 (.slice (some ⟨h8.size,0,none⟩) 1 1)):=hk9;exact ih2 (.mk (bp (sg.head?.getD 0)) 0 [x],.slice (some ⟨h8.size,0,none⟩) 1 1,m+1) ⟨hk9,(aA.of (bp (sg.head?.getD 0)) 0 hsl).mv (Mv.gq hx9 fun b hb hn=>⟨fun(k:b=nb)=>hn (.inr k),hn⟩),ak.only (e8.trans ep) hx9 (by omega),⟨hlt,by show j<m+1;omega⟩,hnext⟩
         · rintro _ _ ⟨rfl,rfl⟩;refine⟨fun _=>by first|exact Ext.push _ _ _|assumption,?_⟩;refine eZ 2 rfl (bz rfl (dA s m)) ?_;rintro _ _ ⟨rfl,rfl⟩;refine⟨fun _=>Ext.refl _ _,?_⟩;refine eZ 3 rfl (bz rfl (iw (p6 s m))) ?_;rintro _ _ ⟨rfl,rfl⟩;refine⟨fun _=>Ext.refl _ _,?_⟩;refine bL 6 rfl (fun h' e=>aq (H.nQ _ _ _ _) rfl) ?_;refine qp 7 rfl (dx rfl rfl ((hk8.ah ep)) (eM (k:=lQ (p6 s m)) (st:=0) (w:=.slice (some ⟨h8.size,0,none⟩) 1 1) rfl)) ?_;rintro _ h9 ⟨rfl,hk9,hx9,hz9⟩;refine⟨nofun,?_⟩;refine lg ?_;refine aa ?_;rw[ni,hsgd] at hk9;have hk9:aB h9 nb 49 (aX (bp (sg.head?.getD 0)) 0 (.slice (some ⟨h8.size,0,none⟩) 1 1)):=hk9;exact ih2 (.mk (bp (sg.head?.getD 0)) 0 [x],.slice (some ⟨h8.size,0,none⟩) 1 1,m+1) ⟨hk9,(aA.of (bp (sg.head?.getD 0)) 0 hsl).mv (Mv.gq hx9 fun b hb hn=>⟨fun(k:b=nb)=>hn (.inr k),hn⟩),ak.only (e8.trans ep) hx9 (by omega),⟨hlt,by show j<m+1;omega⟩,hnext⟩
       · rw[oY (by omega)] at hsg;subst hsg;simp only at hcon;have hr38:∀(i:Nat) (cs:List Value) (x:Nd),cr[i]? =some cs->row[i]? =some x->jg.R h8 (fun b=>bw vr.ownBlock b\/(b<h1.size\/bw va.ownBlock b)) cs x:=fun i cs x h1' h2'=>aA.ah (hr3 i cs x h1' h2') e8
         have hnd8':jg.R h8 (fun b=>bw vr.ownBlock b\/(b<h1.size\/bw va.ownBlock b)) (aX x.kind x.set w) x:=oQ hnd8 (fun b _ k=>.inl (by
          rcases k with k|k|k
          · exact(hor b k.symm).2
          · omega
          · exact(hoa b k.symm).2))
         refine aa ?_;refine xp rfl (gj rfl hk8.row) ?_;refine xo rfl (y3) ?_;rintro _ _ ⟨rfl,rfl⟩;refine xo rfl (aL.eF underlying47 H.Dq rfl rfl ((hr2.rV e8)) rfl rfl (aA.one hnd8) (by omega) (by decide) (by omega)) ?_;rintro v9 h9 ⟨ho9,hx9,-,hv9⟩;refine aa ?_
         have hdis9:∀b,va.ownBlock=some b->v9.ownBlock=some b->False:=fun b hb hb9=>by
          rcases hv9 b hb9 with k|k
          · exact hdis b hb k
          · have:=hoa b hb;omega
         have hva9:cN jg (fun b=>b<h1.size\/bw v9.ownBlock b) h9 h1.size 49 va all:=(hva.ah e8).o9 hx9 (fun b hb k=>hdis b hb k.symm) (fun b _ k=>.inr k) (fun b hb k=>by
          rcases k with k|k
          · exact .inl k
          · rcases hv9 b k.symm with k'|k'
            · exact .inr k'.symm
            · omega)
         have hr9:¬bw vr.ownBlock h.size:=fun k=>by have:=hor _ k.symm;omega
         have e9:ak h h9:=⟨by have:=hx9.size;omega,fun b hb hn=>by rw[hx9.block b (by omega) (fun k=>by have:=hor b k.symm;omega),e8.block b (by omega) (fun k=>k)];exact e5.block b hb hn⟩
         have hcon':dn (bk d) ((s.drop m).length+1) all (row++[x]) (s.drop m)=tgt:=by
          rw[<-hcon];exact jq hrl _ _ _ _ _ _ (Nat.le_refl _) (Nat.lt_succ_self _) (by simp only[List.length_drop];omega)
         exact ih' (all,row++[x],va,v9,m) ⟨hva9,cN.fo hr1 hr38 ho9 hx9 hv9 hnd8',hdis9,(hkr5.ah e8).ext hx9 hr9,e9,⟨hm,by show i<=m;omega,by show all.length+(row++[x]).length<=m;rw[List.length_append,List.length_singleton];omega⟩,hcon'⟩
theorem vG:∀d,uZ d
 | 0=>fun _ _ _ _ h _=>absurd h (Nat.not_lt_zero _)
 |d+1=>fun _ s i hi hd hs=>xy (vG d) s i hi (by omega) hs
theorem uz (s:By) (hs:s.length<=1000000):an Tryd.prog 14 #[.string (bs s)] h (b8 fun r h'=>BE h h' s r/\ak h h'):=by
 have hsz:=dF s;refine cV ?_;refine aa ?_;refine xo rfl (jf) ?_;rintro _ h1 ⟨rfl,hk1,he1,hz1⟩;refine aa ?_;have hk1:aB h1 h.size 49 lM:=hk1;refine bF (fun hbig=>?_) (fun hbig=>?_)
 · have hE:az s=(iz,3):=by unfold az;rw[if_pos (by omega)]
   refine aa ?_;refine xp rfl (aq (H.wN ) rfl) ?_;refine bN rfl (dx rfl rfl hk1) ?_;rintro _ h3 ⟨rfl,hk3,hx3,hz3⟩;refine aa ?_;have hk3:aB h3 h.size 49 lM:=hk3;refine jK (jI rfl hk3.row (vf jJ)) ?_;refine⟨_,rfl,⟨.slice none 0 0,by rw[hE];rfl,by rw[hE];exact bg _ _ 0 0⟩,ak.only he1 hx3 (Nat.le_refl _)⟩
 · have hE:az s=match dm s with|some x=>(x,0)|none=>(iz,10):=by unfold az;rw[if_neg (by omega)];rfl
   refine aa ?_;refine xo rfl (bz rfl (vG (s.length+1) h1 s 0 (Nat.zero_le _) (by simp) hs)) ?_;rintro _ h2 ⟨hv,he2⟩;have hz2:=he2.size;have hk12:=hk1.ah he2;rw[List.drop_zero] at hv
   rcases hp:bk (s.length+1) s with _|⟨x,t⟩<;>rw[hp] at hv
   · obtain⟨k,st,w,hw,rfl⟩:=hv;have hpn:dm s=none:=by unfold dm;rw[hp]
     refine aa ?_;refine xo rfl (jf) ?_;rintro _ h3 ⟨rfl,hk3,he3,hz3⟩;refine bN rfl (dx rfl rfl hk3 (eM hw)) ?_;rintro _ h4 ⟨rfl,hk4,hx4,hz4⟩;refine aa ?_;refine n6 rfl (by simp) ?_;refine aa ?_;refine xp rfl (aq (H.wN ) rfl) ?_;refine bN rfl (dx rfl rfl (((hk12.ah he3).ext hx4 (by show ¬_=_;omega)))) ?_;rintro _ h5 ⟨rfl,hk5,hx5,hz5⟩;refine aa ?_;have hk5:aB h5 h.size 49 lM:=hk5;refine jK (jI rfl hk5.row (vf jJ)) ?_;exact⟨_,rfl,⟨.slice none 0 0,by rw[hE,hpn]<;>rfl,by rw[hE,hpn];exact bg _ _ 0 0⟩,ak.only (ak.only ((he1.trans he2).trans he3) hx4 (by omega)) hx5 (Nat.le_refl _)⟩
   · obtain⟨w,k,hk,rfl,rfl,hnd⟩:=hv;refine aa ?_;refine xo rfl (jf) ?_;rintro _ h3 ⟨rfl,hk3,he3,hz3⟩;refine bN rfl (dx rfl rfl hk3 (aA.one hnd)) ?_;rintro _ h4 ⟨rfl,hk4,hx4,hz4⟩;refine aa ?_;have hk4:aB h4 h2.size 49 (aX x.kind x.set w):=hk4;have hnd4:aA h4 (vh h1.size) (aX x.kind x.set w) x:=hnd.ah (ak.only he3 hx4 (Nat.le_refl _));have hk14:=(hk12.ah he3).ext hx4 (by show ¬_=_;omega);have e4:=ak.only ((he1.trans he2).trans he3) hx4 (by omega);refine bF (fun hr=>?_) (fun hr=>?_)
     · have hpn:dm s=none:=by
        unfold dm;rw[hp];cases hdr:s.drop k with
        |nil=>have:=congrArg List.length hdr;simp at this;omega
        |cons c t=>rfl
       refine aa ?_;refine xp rfl (aq (H.wN ) rfl) ?_;refine bN rfl (dx rfl rfl hk14) ?_;rintro _ h5 ⟨rfl,hk5,hx5,hz5⟩;refine aa ?_;have hk5:aB h5 h.size 49 lM:=hk5;refine jK (jI rfl hk5.row (vf jJ)) ?_;exact⟨_,rfl,⟨.slice none 0 0,by rw[hE,hpn]<;>rfl,by rw[hE,hpn];exact bg _ _ 0 0⟩,ak.only e4 hx5 (Nat.le_refl _)⟩
     · obtain rfl:k=s.length:=by omega
       have hpn:dm s=some x:=by unfold dm;rw[hp,List.drop_length]
       refine aa ?_;refine xp rfl (gj rfl hk4.row) ?_;refine bN rfl (dx rfl rfl hk14 (aA.one hnd4)) ?_;rintro _ h5 ⟨rfl,hk5,hx5,hz5⟩;refine aa ?_;have hk5:aB h5 h.size 49 (aX x.kind x.set w):=hk5;refine jK (jI rfl hk5.row (vf jJ)) ?_;exact⟨_,rfl,⟨w,by rw[hE,hpn]<;>rfl,by rw[hE,hpn];exact cO hnd4 (by omega) hx5 (fun b _ (hb:b=h.size)=>by omega)⟩,ak.only e4 hx5 (Nat.le_refl _)⟩
end
end Go.Proofs.YtbbjkiigpdjaaaaDoor
namespace Go.Proofs.YtbbjkiigpdjaaaaDoor
inductive fS (A:By->Prop):By->Prop where
  |nil:fS A []
  |cons {u v:By}:A u->fS A v->fS A (u++v)
mutual
def xb:Nd->By->Prop
  |.mk k s kids=>fun w =>
    if k=1 then ∃c:UInt8,w=[c]/\s.testBit c.toNat=true
    else if k=2 then kY kids w
    else if k=3 then jG kids w
    else if k=6 then w=[]\/iL kids w
    else if k=4 then fS (iL kids) w
    else if k=5 then ∃u v,w=u++v/\iL kids u/\fS (iL kids) v
    else w=[]
def kY:List Nd->By->Prop
  | []=>fun w=>w=[]
  |x::r=>fun w=>∃u v,w=u++v/\xb x u/\kY r v
def jG:List Nd->By->Prop
  | []=>fun _=>False
  |x::r=>fun w=>xb x w\/jG r w
def iL:List Nd->By->Prop
  | []=>fun w=>w=[]
  |x::_=>fun w=>xb x w
end
inductive Acc (F:List aH) (fin:Nat->Prop):Nat->Nat->By->Prop where
  |done {q:Nat}:fin q->Acc F fin 0 q []
  |sW {n q q':Nat}{x:aH}{w:By}:F[q]? =some x->x.kind=0->q'∈x.to->Acc F fin n q' w->Acc F fin (n+1) q w
  |eat {n q q':Nat}{x:aH}{c:UInt8}{w:By}:F[q]? =some x->x.kind=1->x.set.testBit c.toNat=true->q'∈x.to->Acc F fin n q' w->Acc F fin (n+1) q (c::w)
def je (F:List aH) (fin:Nat->Prop):Prop:=∀q,fin q->∃x,F[q]? =some x/\x.kind=2
theorem Acc.fork {F:List aH}{fin:Nat->Prop}(hf:je F fin){n q:Nat}{x:aH}{w:By}(hx:F[q]? =some x) (hk:x.kind=0) (h:Acc F fin n q w):∃m q',m<n/\q'∈x.to/\Acc F fin m q' w:=by
  cases h with
  |done hq=>obtain⟨y,hy,hk2⟩:=hf _ hq;rw[hx] at hy;cases hy;omega
  |sW hy _ hq h=>rw[hx] at hy;cases hy;exact⟨_,_,Nat.lt_succ_self _,hq,h⟩
  |eat hy hk1 _ _ _=>rw[hx] at hy;cases hy;omega
theorem Acc.Fy {F:List aH}{fin:Nat->Prop}(hf:je F fin){n q:Nat}{x:aH}{w:By}(hx:F[q]? =some x) (hk:x.kind=1) (h:Acc F fin n q w):∃m q' c w',m<n/\w=c::w'/\x.set.testBit c.toNat=true/\q'∈x.to/\Acc F fin m q' w':=by
  cases h with
  |done hq=>obtain⟨y,hy,hk2⟩:=hf _ hq;rw[hx] at hy;cases hy;omega
  |sW hy hk1 _ _=>rw[hx] at hy;cases hy;omega
  |eat hy _ hc hq h=>rw[hx] at hy;cases hy;exact⟨_,_,_,_,Nat.lt_succ_self _,rfl,hc,hq,h⟩
def Splits (F:List aH) (fin:Nat->Prop) (b to:Nat) (A:By->Prop):Prop :=
  (∀n w,Acc F fin n b w->∃u v m,w=u++v/\A u/\m<=n/\Acc F fin m to v)/\(∀u v m,A u->Acc F fin m to v->∃n,Acc F fin n b (u++v))
def lJ (F ss':List aH) (lo:Nat):Prop:=∀i,lo<=i->i<ss'.length->F[i]? =ss'[i]?
theorem mm {F:List aH}{fin:Nat->Prop}{to:Nat}:Splits F fin to to (fun w=>w=[]) :=
  ⟨fun n w h=>⟨[],w,n,rfl,rfl,Nat.le_refl _,h⟩,fun u v m hu h=>⟨m,by subst hu;exact h⟩⟩
theorem vz {F:List aH}{fin:Nat->Prop}(hf:je F fin){first again to:Nat}{A:By->Prop}{x:aH}(hx:F[again]? =some x) (hk:x.kind=0) (ht:x.to=[first,to]) (h:Splits F fin first again A):Splits F fin again to (fS A):=by
  constructor
  · intro n
    induction n using Nat.strongRecOn with
    |_ n ih =>
      intro w hw;obtain⟨m,q',hm,hq,hw'⟩:=hw.fork hf hx hk;rw[ht] at hq
      rcases List.mem_cons.1 hq with rfl|hq
      · obtain⟨u1,v1,m1,rfl,hu1,hm1,hv1⟩:=h.1 _ _ hw';obtain⟨u2,v2,m2,rfl,hu2,hm2,hv2⟩:=ih m1 (by omega) _ hv1;exact⟨u1++u2,v2,m2,by simp,.cons hu1 hu2,by omega,hv2⟩
      · have:q'=to:=by simpa using hq
        subst this;exact⟨[],w,m,rfl,.nil,by omega,hw'⟩
  · intro u v m hu hv
    induction hu with
    |nil=>exact⟨m+1,.sW hx hk (by rw[ht];simp) hv⟩
    |cons hA _ ih =>
      obtain⟨n,hn⟩:=ih;obtain⟨n',hn'⟩:=h.2 _ _ _ hA hn;exact⟨n'+1,.sW (q':=first) hx hk (by rw[ht];simp) (by rw[List.append_assoc];exact hn')⟩
theorem qz {F:List aH}{fin:Nat->Prop}{b c to:Nat}{A B:By->Prop}(h1:Splits F fin b c A) (h2:Splits F fin c to B):Splits F fin b to (fun w=>∃u v,w=u++v/\A u/\B v):=by
  constructor
  · intro n w hw;obtain⟨u1,v1,m1,rfl,hu1,hm1,hv1⟩:=h1.1 _ _ hw;obtain⟨u2,v2,m2,rfl,hu2,hm2,hv2⟩:=h2.1 _ _ hv1;exact⟨u1++u2,v2,m2,by simp,⟨_,_,rfl,hu1,hu2⟩,by omega,hv2⟩
  · rintro u v m ⟨u1,u2,rfl,hA,hB⟩ hv;obtain⟨n,hn⟩:=h2.2 _ _ _ hB hv;obtain⟨n',hn'⟩:=h1.2 _ _ _ hA hn;exact⟨n',by rw[List.append_assoc];exact hn'⟩
mutual
theorem jx {F:List aH}{fin:Nat->Prop}(hf:je F fin):∀(x:Nd) (ss:List aH) (to:Nat),lJ F (lay x ss to).1 ss.length->Splits F fin (lay x ss to).2 to (xb x)
  |.mk k s kids,ss,to,hs=>by
    rw[lay] at hs ⊢;unfold xb
    by_cases h1:k=1
    · simp only[if_pos h1] at hs ⊢;have hx:F[ss.length]? =some ⟨1,s,[to],0⟩:=by rw[hs _ (Nat.le_refl _) (by simp)];simp
      constructor
      · intro n w hw;obtain⟨m,q',c,w',hm,rfl,hc,hq,hw'⟩:=hw.Fy hf hx rfl;have:q'=to:=by simpa using hq
        subst this;exact⟨[c],w',m,rfl,⟨c,rfl,hc⟩,by omega,hw'⟩
      · rintro u v m ⟨c,rfl,hc⟩ hv;exact⟨m+1,.eat hx rfl hc (by simp) hv⟩
    · simp only[if_neg h1] at hs ⊢
      by_cases h2:k=2
      · simp only[if_pos h2] at hs ⊢;exact lV hf kids ss to hs
      · simp only[if_neg h2] at hs ⊢
        by_cases h3:k=3
        · simp only[if_pos h3] at hs ⊢;have hl:=cj kids ss to;have hx:F[(aC kids ss to).1.length]? =some ⟨0,0,(aC kids ss to).2,0⟩:=by rw[hs _ (by omega) (by simp)];simp
          have ih:=lW hf kids ss to (fun i h1 h2=>by rw[hs i h1 (by simp;omega),List.getElem?_append_left h2]);constructor
          · intro n w hw;obtain⟨m,q',hm,hq,hw'⟩:=hw.fork hf hx rfl;obtain⟨u,v,m',hu⟩:=ih.1 _ _ _ hq hw';exact⟨u,v,m',hu.1,hu.2.1,by omega,hu.2.2.2⟩
          · intro u v m hu hv;obtain⟨n,q',hq,hn⟩:=ih.2 _ _ _ hu hv;exact⟨n+1,.sW hx rfl hq hn⟩
        · simp only[if_neg h3] at hs ⊢
          by_cases h6:k=6
          · simp only[if_pos h6] at hs ⊢;have hl:=cu kids ss to;have hx:F[(aM kids ss to).1.length]? =some ⟨0,0,[(aM kids ss to).2,to],0⟩:=by rw[hs _ (by omega) (by simp)];simp
            have ih:=lU hf kids ss to (fun i h1 h2=>by rw[hs i h1 (by simp;omega),List.getElem?_append_left h2]);constructor
            · intro n w hw;obtain⟨m,q',hm,hq,hw'⟩:=hw.fork hf hx rfl
              rcases List.mem_cons.1 hq with rfl|hq
              · obtain⟨u,v,m',h1,h2,h3,h4⟩:=ih.1 _ _ hw';exact⟨u,v,m',h1,.inr h2,by omega,h4⟩
              · have:q'=to:=by simpa using hq
                subst this;exact⟨[],w,m,rfl,.inl rfl,by omega,hw'⟩
            · rintro u v m (rfl|hu) hv
              · exact⟨m+1,.sW hx rfl (by simp) hv⟩
              · obtain⟨n,hn⟩:=ih.2 _ _ _ hu hv;exact⟨n+1,.sW hx rfl (by simp) hn⟩
          · simp only[if_neg h6] at hs ⊢
            by_cases h45:k=4\/k=5
            · simp only[if_pos h45] at hs ⊢;have hl:=cu kids (ss++[⟨0,0,[],0⟩]) ss.length;simp only[List.length_append,List.length_singleton] at hl
              have hx:F[ss.length]? =some ⟨0,0,[(aM kids (ss++[⟨0,0,[],0⟩]) ss.length).2,to],0⟩:=by
                rw[hs _ (Nat.le_refl _) (by simp;omega)];simp[List.getElem?_set];omega
              have ih:=lU hf kids (ss++[⟨0,0,[],0⟩]) ss.length (fun i h1 h2=>by
                simp only[List.length_append,List.length_singleton] at h1;rw[hs i (by omega) (by simp;omega),List.getElem?_set_ne (by omega)])
              have hst:=vz hf hx rfl rfl ih
              by_cases h4:k=4
              · have h5:¬k=5:=by omega
                simp only[if_pos h4,if_neg h5];exact hst
              · have h5:k=5:=by omega
                simp only[if_neg h4,if_pos h5];exact qz ih hst
            · simp only[if_neg h45] at hs ⊢;have h4:¬k=4:=fun e=>h45 (.inl e)
              have h5:¬k=5:=fun e=>h45 (.inr e)
              simp only[if_neg h4,if_neg h5];exact mm
theorem lV {F:List aH}{fin:Nat->Prop}(hf:je F fin):∀(l:List Nd) (ss:List aH) (to:Nat),lJ F (aD l ss to).1 ss.length->Splits F fin (aD l ss to).2 to (kY l)
  | [],ss,to,hs=>by
    rw[aD];unfold kY;exact mm
  |x::r,ss,to,hs=>by
    rw[aD] at hs ⊢;unfold kY;have hl:=eu r ss to;have hl2:=cD x (aD r ss to).1 (aD r ss to).2;have h2:=lV hf r ss to (fun i h1 h2=>by rw[hs i h1 (by omega),eO x _ _ i h2]);have h1:=jx hf x (aD r ss to).1 (aD r ss to).2 (fun i h1 h2=>hs i (by omega) h2);exact qz h1 h2
theorem lW {F:List aH}{fin:Nat->Prop}(hf:je F fin):∀(l:List Nd) (ss:List aH) (to:Nat),lJ F (aC l ss to).1 ss.length ->
    (∀n q w,q∈(aC l ss to).2->Acc F fin n q w->∃u v m,w=u++v/\jG l u/\m<=n/\Acc F fin m to v)/\(∀u v m,jG l u->Acc F fin m to v->∃n q,q∈(aC l ss to).2/\Acc F fin n q (u++v))
  | [],ss,to,hs=>by
    rw[aC];unfold jG;exact⟨fun n q w h=>absurd h List.not_mem_nil,fun u v m h=>False.elim h⟩
  |x::r,ss,to,hs=>by
    rw[aC] at hs ⊢;unfold jG;have hl:=cD x ss to;have hl2:=cj r (lay x ss to).1 to;have h1:=jx hf x ss to (fun i h1 h2=>by rw[hs i h1 (by simp only;omega)];exact gR r _ _ i h2);have h2:=lW hf r (lay x ss to).1 to (fun i h1 h2=>hs i (by omega) h2);constructor
    · intro n q w hq hw
      rcases List.mem_cons.1 hq with rfl|hq
      · obtain⟨u,v,m,a,b,c,d⟩:=h1.1 _ _ hw;exact⟨u,v,m,a,.inl b,c,d⟩
      · obtain⟨u,v,m,a,b,c,d⟩:=h2.1 _ _ _ hq hw;exact⟨u,v,m,a,.inr b,c,d⟩
    · rintro u v m (hu|hu) hv
      · obtain⟨n,hn⟩:=h1.2 _ _ _ hu hv;exact⟨n,_,List.mem_cons_self,hn⟩
      · obtain⟨n,q,hq,hn⟩:=h2.2 _ _ _ hu hv;exact⟨n,q,List.mem_cons_of_mem _ hq,hn⟩
theorem lU {F:List aH}{fin:Nat->Prop}(hf:je F fin):∀(l:List Nd) (ss:List aH) (to:Nat),lJ F (aM l ss to).1 ss.length->Splits F fin (aM l ss to).2 to (iL l)
  | [],ss,to,hs=>by
    rw[aM];unfold iL;exact mm
  |x::r,ss,to,hs=>by
    rw[aM] at hs ⊢;unfold iL;exact jx hf x ss to hs
end
def fU (a b:List Bool):List Bool:=List.zipWith (· || ·) a b
def aQ (last first:List Bool) (bh:List (List Bool)):List (List Bool):=List.zipWith (fun l b=>if l then fU b first else b) last bh
structure cL where
  null:Bool
  first:List Bool
  last:List Bool
abbrev jb:=List Nat×List (List Bool)
def bO (size:Nat):List Bool:=List.replicate size false
mutual
def cnt:Nd->Nat
  |.mk k _ kids=>(if k=1 then 1 else 0)+cE kids
def cE:List Nd->Nat
  | []=>0
  |x::r=>cnt x+cE r
end
theorem pR:∀(l m:List Nd),cE (l++m)=cE l+cE m
  | [],m=>by simp[cE]
  |x::l,m=>by simp only[List.cons_append,cE];rw[pR l m];omega
mutual
theorem xY:∀x:Nd,cnt x<=fV x
  |.mk k s kids=>by have:=uS kids;simp only[cnt,fV];split<;>omega
theorem uS:∀l:List Nd,cE l<=cQ l
  | []=>by simp[cE,cQ]
  |x::r=>by have:=xY x;have:=uS r;simp only[cE,cQ];omega
end
def bA (p k:cL):cL:=⟨p.null && k.null,if p.null then fU p.first k.first else p.first,if k.null then fU p.last k.last else k.last⟩
def cI (p k:cL):cL:=⟨p.null ||k.null,fU p.first k.first,fU p.last k.last⟩
mutual
def bJ (size:Nat):Nd->jb->cL×jb
  |.mk k s kids,st =>
    if k=1 then (⟨false,(bO size).set st.1.length true,(bO size).set st.1.length true⟩,(st.1++[s],st.2))
    else if k=2 then bB size kids ⟨true,bO size,bO size⟩ st
    else if k=3 then bC size kids ⟨false,bO size,bO size⟩ st
    else if k=4\/k=5 then
      (⟨(aU size kids st).1.null ||k ==4,(aU size kids st).1.first,(aU size kids st).1.last⟩,((aU size kids st).2.1,aQ (aU size kids st).1.last (aU size kids st).1.first (aU size kids st).2.2))
    else if k=6 then (⟨true,(aU size kids st).1.first,(aU size kids st).1.last⟩,(aU size kids st).2)
    else (⟨true,bO size,bO size⟩,st)
def bB (size:Nat):List Nd->cL->jb->cL×jb
  | [],p,st=>(p,st)
  |x::r,p,st=>bB size r (bA p (bJ size x st).1) ((bJ size x st).2.1,aQ p.last (bJ size x st).1.first (bJ size x st).2.2)
def bC (size:Nat):List Nd->cL->jb->cL×jb
  | [],p,st=>(p,st)
  |x::r,p,st=>bC size r (cI p (bJ size x st).1) (bJ size x st).2
def aU (size:Nat):List Nd->jb->cL×jb
  | [],st=>(⟨true,bO size,bO size⟩,st)
  |x::_,st=>bJ size x st
end
structure dN where
  sets:List Nat
  behind:List (List Bool)
  last:List Bool
def fq (x:Nd):dN :=
  ⟨(bJ (cnt x+1) x ([0],List.replicate (cnt x+1) (bO (cnt x+1)))).2.1,
   (bJ (cnt x+1) x ([0],List.replicate (cnt x+1) (bO (cnt x+1)))).2.2.set 0 (bJ (cnt x+1) x ([0],List.replicate (cnt x+1) (bO (cnt x+1)))).1.first,
   (bJ (cnt x+1) x ([0],List.replicate (cnt x+1) (bO (cnt x+1)))).1.last.set 0 (bJ (cnt x+1) x ([0],List.replicate (cnt x+1) (bO (cnt x+1)))).1.null⟩
theorem nw {a b:List Bool}{n:Nat}(ha:a.length=n) (hb:b.length=n):(fU a b).length=n:=by simp[fU,ha,hb]
theorem bZ (n:Nat):(bO n).length=n:=by simp[bO]
structure cM (n:Nat) (p:cL):Prop where
  first:p.first.length=n
  last:p.last.length=n
structure fD (n:Nat) (st:jb):Prop where
  rows:st.2.length=n
  each:∀b∈st.2,b.length=n
theorem iW {n:Nat}{p:List Bool}{f:List Bool}{S:List Nat}{bh:List (List Bool)}(hp:p.length=n) (hf:f.length=n) (k:fD n (S,bh)):fD n (S,aQ p f bh):=by
  refine⟨by have:=k.rows;simp only at this;simp[aQ,hp,this],fun b hb=>?_⟩;obtain⟨i,hi⟩:=List.getElem?_of_mem hb;simp only[aQ,List.getElem?_zipWith] at hi;split at hi
  · rename_i l c hl hc;have hcl:=k.each c (List.mem_of_getElem? hc);cases hi;split
    · exact nw hcl hf
    · exact hcl
  · cases hi
theorem fA {n:Nat}{p k:cL}(hp:cM n p) (hk:cM n k):cM n (bA p k):=by
  refine⟨?_,?_⟩<;>simp only[bA]<;>split
  · exact nw hp.first hk.first
  · exact hp.first
  · exact nw hp.last hk.last
  · exact hk.last
theorem fC {n:Nat}{p k:cL}(hp:cM n p) (hk:cM n k):cM n (cI p k):=⟨nw hp.first hk.first,nw hp.last hk.last⟩
theorem gO (n:Nat) (b:Bool):cM n ⟨b,bO n,bO n⟩:=⟨bZ n,bZ n⟩
mutual
theorem dK (n:Nat):∀(x:Nd) (st:jb),fD n st->cM n (bJ n x st).1/\fD n (bJ n x st).2/\st.1.length<=(bJ n x st).2.1.length/\(ig x=true->(bJ n x st).2.1.length<=st.1.length+cnt x)
  |.mk k s kids,st,h=>by
    rw[bJ];simp only[cnt];split
    · rename_i h1;exact⟨⟨by simp[bZ],by simp[bZ]⟩,⟨h.rows,h.each⟩,by simp,fun _=>by simp⟩
    · split
      · have k1:=lC n kids ⟨true,bO n,bO n⟩ st (gO n _) h;exact⟨k1.1,k1.2.1,k1.2.2.1,fun hw=>by have:=k1.2.2.2 (by simp only[ig,Bool.and_eq_true] at hw;exact hw.2);omega⟩
      · split
        · have k1:=lD n kids ⟨false,bO n,bO n⟩ st (gO n _) h;exact⟨k1.1,k1.2.1,k1.2.2.1,fun hw=>by have:=k1.2.2.2 (by simp only[ig,Bool.and_eq_true] at hw;exact hw.2);omega⟩
        · have k1:=oG n kids st h;split
          · exact⟨⟨k1.1.first,k1.1.last⟩,iW k1.1.last k1.1.first k1.2.1,k1.2.2.1,fun hw=>by have:=k1.2.2.2 (by simp only[ig,Bool.and_eq_true] at hw;exact hw.2);simp only;omega⟩
          · split
            · exact⟨⟨k1.1.first,k1.1.last⟩,k1.2.1,k1.2.2.1,fun hw=>by have:=k1.2.2.2 (by simp only[ig,Bool.and_eq_true] at hw;exact hw.2);simp only;omega⟩
            · exact⟨gO n _,h,Nat.le_refl _,fun _=>by simp only;omega⟩
theorem lC (n:Nat):∀(l:List Nd) (p:cL) (st:jb),cM n p->fD n st->cM n (bB n l p st).1/\fD n (bB n l p st).2/\st.1.length<=(bB n l p st).2.1.length/\(ic l=true->(bB n l p st).2.1.length<=st.1.length+cE l)
  | [],p,st,hp,h=>by rw[bB];exact⟨hp,h,Nat.le_refl _,fun _=>by simp[cE]⟩
  |x::r,p,st,hp,h=>by
    rw[bB];have k1:=dK n x st h;have k2:=lC n r (bA p (bJ n x st).1) ((bJ n x st).2.1,aQ p.last (bJ n x st).1.first (bJ n x st).2.2) (fA hp k1.1) (iW hp.last k1.1.first k1.2.1);refine⟨k2.1,k2.2.1,Nat.le_trans k1.2.2.1 k2.2.2.1,fun hw=>?_⟩;simp only[ic,Bool.and_eq_true] at hw;have:=k1.2.2.2 hw.1;have:=k2.2.2.2 hw.2;simp only[cE] at *;omega
theorem lD (n:Nat):∀(l:List Nd) (p:cL) (st:jb),cM n p->fD n st->cM n (bC n l p st).1/\fD n (bC n l p st).2/\st.1.length<=(bC n l p st).2.1.length/\(ic l=true->(bC n l p st).2.1.length<=st.1.length+cE l)
  | [],p,st,hp,h=>by rw[bC];exact⟨hp,h,Nat.le_refl _,fun _=>by simp[cE]⟩
  |x::r,p,st,hp,h=>by
    rw[bC];have k1:=dK n x st h;have k2:=lD n r (cI p (bJ n x st).1) (bJ n x st).2 (fC hp k1.1) k1.2.1;refine⟨k2.1,k2.2.1,Nat.le_trans k1.2.2.1 k2.2.2.1,fun hw=>?_⟩;simp only[ic,Bool.and_eq_true] at hw;have:=k1.2.2.2 hw.1;have:=k2.2.2.2 hw.2;simp only[cE] at *;omega
theorem oG (n:Nat):∀(l:List Nd) (st:jb),fD n st->cM n (aU n l st).1/\fD n (aU n l st).2/\st.1.length<=(aU n l st).2.1.length/\(ic l=true->(aU n l st).2.1.length<=st.1.length+cE l)
  | [],st,h=>by rw[aU];exact⟨gO n _,h,Nat.le_refl _,fun _=>by simp[cE]⟩
  |x::r,st,h=>by
    rw[aU];have k1:=dK n x st h;refine⟨k1.1,k1.2.1,k1.2.2.1,fun hw=>?_⟩;simp only[ic,Bool.and_eq_true] at hw;have:=k1.2.2.2 hw.1;simp only[cE];omega
end
def On (l:List Bool) (i:Nat):Prop:=l[i]? =some true
theorem nB {a b:List Bool}(h:a.length=b.length) (i:Nat):On (fU a b) i↔On a i\/On b i:=by
  unfold On fU;rw[List.getElem?_zipWith]
  by_cases hi:i<a.length
  · rw[List.getElem?_eq_getElem hi,List.getElem?_eq_getElem (by omega)];simp
  · rw[List.getElem?_eq_none (by omega),List.getElem?_eq_none (by omega)];simp
theorem kC (n i:Nat):¬On (bO n) i:=by
  unfold On bO;rw[List.getElem?_replicate];split<;>simp
theorem kB {n j:Nat}(h:j<n) (i:Nat):On ((bO n).set j true) i↔i=j:=by
  by_cases e:j=i
  · subst e;unfold On;rw[List.getElem?_set_self (by rw[bZ];exact h)];simp
  · have:On ((bO n).set j true) i↔On (bO n) i:=by unfold On;rw[List.getElem?_set_ne e]
    rw[this];exact⟨fun k=>(kC n i k).elim,fun k=>(e k.symm).elim⟩
def Bh (bh:List (List Bool)) (p q:Nat):Prop:=∃b,bh[p]? =some b/\On b q
theorem lE {n:Nat}{l f:List Bool}{S:List Nat}{bh:List (List Bool)}(hl:l.length=n) (hf:f.length=n) (k:fD n (S,bh)) (p q:Nat):Bh (aQ l f bh) p q↔Bh bh p q\/(On l p/\On f q):=by
  unfold Bh aQ;simp only[List.getElem?_zipWith];have hr:=k.rows;simp only at hr
  by_cases hp:p<n
  · obtain⟨b,hb⟩:∃b,bh[p]? =some b:=⟨_,List.getElem?_eq_getElem (by omega)⟩
    obtain⟨c,hc⟩:∃c,l[p]? =some c:=⟨_,List.getElem?_eq_getElem (by omega)⟩
    have hbl:=k.each b (List.mem_of_getElem? hb);rw[hb,hc];cases c with
    |true=>simp[On,hc,show ∀q,((fU b f)[q]? =some true↔b[q]? =some true\/f[q]? =some true) from fun q=>nB (by omega) q]
    |false=>simp[On,hc]
  · have h1:bh[p]? =none:=List.getElem?_eq_none (by omega);have h2:l[p]? =none:=List.getElem?_eq_none (by omega);simp[h1,h2,On]
section
variable (S:Nat->UInt8->Prop)
inductive BF (G:Nat->Nat->Prop) (E:Nat->Prop):Nat->By->Prop where
  |done {p:Nat}:E p->BF G E p []
  |go {p q:Nat}{c:UInt8}{w:By}:G p q->S q c->BF G E q w->BF G E p (c::w)
def sP (G:Nat->Nat->Prop) (E:Nat->Prop) (F:Nat->Prop) (w:By):Prop:=∃c w',w=c::w'/\∃q,F q/\S q c/\BF S G E q w'
def Cont (G:Nat->Nat->Prop) (E:Nat->Prop) (N:Nat->Prop) (e:Prop) (v:By):Prop:=(v=[]/\e)\/sP S G E N v
structure jW (lo hi:Nat) (null:Bool) (F L:Nat->Prop) (Fol:Nat->Nat->Prop) (A:By->Prop):Prop where
  fr:∀q,F q->lo<=q/\q<hi
  lr:∀q,L q->lo<=q/\q<hi
  gr:∀p q,Fol p q->(lo<=p/\p<hi)/\lo<=q/\q<hi
  nul:null=true↔A []
  ent:∀(G:Nat->Nat->Prop) (E N:Nat->Prop) (e:Prop),(∀p q,lo<=p->p<hi->(G p q↔Fol p q\/(L p/\N q)))->(∀p,lo<=p->p<hi->(E p↔L p/\e)) ->
    ∀w,sP S G E F w↔∃u v,w=u++v/\u≠[]/\A u/\Cont S G E N e v
end
section
variable {S:Nat->UInt8->Prop}{lo mid hi:Nat}{n1 n2 null:Bool}{F F1 F2 L L1 L2:Nat->Prop}{Fol Fol1 Fol2:Nat->Nat->Prop}{A B:By->Prop}{G:Nat->Nat->Prop}{E N:Nat->Prop}{e:Prop}
theorem sP.or {w:By}:sP S G E (fun q=>F1 q\/F2 q) w↔sP S G E F1 w\/sP S G E F2 w:=by
  constructor
  · rintro⟨c,w',rfl,q,hq|hq,h⟩
    · exact .inl ⟨c,w',rfl,q,hq,h⟩
    · exact .inr ⟨c,w',rfl,q,hq,h⟩
  · rintro(⟨c,w',rfl,q,hq,h⟩|⟨c,w',rfl,q,hq,h⟩)
    · exact⟨c,w',rfl,q,.inl hq,h⟩
    · exact⟨c,w',rfl,q,.inr hq,h⟩
theorem sP.and {P:Prop}{w:By}:sP S G E (fun q=>P/\F q) w↔P/\sP S G E F w:=by
  constructor
  · rintro⟨c,w',rfl,q,⟨hp,hq⟩,h⟩;exact⟨hp,c,w',rfl,q,hq,h⟩
  · rintro⟨hp,c,w',rfl,q,hq,h⟩;exact⟨c,w',rfl,q,⟨hp,hq⟩,h⟩
theorem tY {w:By}:¬sP S G E (fun _=>False) w:=by rintro⟨_,_,_,_,h,_⟩;exact h
theorem jW.congr {F' L':Nat->Prop}{Fol':Nat->Nat->Prop}{A':By->Prop}(k:jW S lo hi null F L Fol A) (hF:∀q,F' q↔F q) (hL:∀q,L' q↔L q) (hG:∀p q,Fol' p q↔Fol p q) (hA:∀u,A' u↔A u):jW S lo hi null F' L' Fol' A':=by
  have e1:F'=F:=funext fun q=>propext (hF q)
  have e2:L'=L:=funext fun q=>propext (hL q)
  have e3:Fol'=Fol:=funext fun p=>funext fun q=>propext (hG p q)
  have e4:A'=A:=funext fun u=>propext (hA u)
  rw[e1,e2,e3,e4];exact k
theorem Ad (A:By->Prop) (hA:∀u,A u->u=[]) (hn:null=true↔A []):jW S lo lo null (fun _=>False) (fun _=>False) (fun _ _=>False) A:=by
  refine⟨fun _ h=>h.elim,fun _ h=>h.elim,fun _ _ h=>h.elim,hn,fun G E N e _ _ w=>⟨fun h=>(tY h).elim,?_⟩⟩;rintro⟨u,v,_,h0,hu,_⟩;exact absurd (hA u hu) h0
theorem jW.byte:jW S lo (lo+1) false (fun q=>q=lo) (fun q=>q=lo) (fun _ _=>False) (fun u=>∃c,u=[c]/\S lo c):=by
  refine⟨fun q h=>by omega,fun q h=>by omega,fun _ _ h=>h.elim,⟨fun h=>(by cases h),fun h=>(by obtain⟨c,h,_⟩:=h;cases h)⟩,fun G E N e hG hE w=>?_⟩;have hG:=fun q=>hG lo q (Nat.le_refl _) (by omega)
  have hE:=hE lo (Nat.le_refl _) (by omega);constructor
  · rintro⟨c,w',rfl,q,rfl,hc,hp⟩;refine⟨[c],w',rfl,by simp,⟨c,rfl,hc⟩,?_⟩;cases hp with
    |done h=>exact .inl ⟨rfl,(hE.1 h).2⟩
    |go hg hs hp =>
      rcases (hG _).1 hg with h|⟨_,h⟩
      · exact h.elim
      · exact .inr ⟨_,_,rfl,_,h,hs,hp⟩
  · rintro⟨u,v,rfl,_,⟨c,rfl,hc⟩,hv⟩;refine⟨c,v,rfl,lo,rfl,hc,?_⟩
    rcases hv with ⟨rfl,he⟩|⟨c',v',rfl,q,hq,hs,hp⟩
    · exact .done (hE.2 ⟨rfl,he⟩)
    · exact .go ((hG q).2 (.inr ⟨rfl,hq⟩)) hs hp
theorem jW.cat (h1:jW S lo mid n1 F1 L1 Fol1 A) (h2:jW S mid hi n2 F2 L2 Fol2 B) (hm1:lo<=mid) (hm2:mid<=hi) :
    jW S lo hi (n1 && n2) (fun q=>F1 q\/(n1=true/\F2 q)) (fun q=>L2 q\/(n2=true/\L1 q)) (fun p q=>Fol1 p q\/Fol2 p q\/(L1 p/\F2 q)) (fun w=>∃u v,w=u++v/\A u/\B v):=by
  refine⟨fun q h=>?_,fun q h=>?_,fun p q h=>?_,?_,fun G E N e hG hE w=>?_⟩
  · rcases h with h|⟨_,h⟩
    · have:=h1.fr q h;omega
    · have:=h2.fr q h;omega
  · rcases h with h|⟨_,h⟩
    · have:=h2.lr q h;omega
    · have:=h1.lr q h;omega
  · rcases h with h|h|⟨h,h'⟩
    · have:=h1.gr p q h;omega
    · have:=h2.gr p q h;omega
    · have:=h1.lr p h;have:=h2.fr q h';omega
  · rw[Bool.and_eq_true,h1.nul,h2.nul]
    exact⟨fun⟨a,b⟩=>⟨[],[],rfl,a,b⟩,fun⟨u,v,h,a,b⟩=>by
      have:=List.append_eq_nil_iff.1 h.symm;rw[this.1] at a;rw[this.2] at b;exact⟨a,b⟩⟩
  · have e2:=h2.ent G E N e (fun p q hp hp'=>by
      rw[hG p q (by omega) hp'];constructor
      · rintro((h|h|⟨h,_⟩)|⟨h|⟨_,h⟩,hn⟩)
        · have:=h1.gr p q h;omega
        · exact .inl h
        · have:=h1.lr p h;omega
        · exact .inr ⟨h,hn⟩
        · have:=h1.lr p h;omega
      · rintro(h|⟨h,hn⟩)
        · exact .inl (.inr (.inl h))
        · exact .inr ⟨.inl h,hn⟩) (fun p hp hp'=>by
      rw[hE p (by omega) hp'];constructor
      · rintro⟨h|⟨_,h⟩,he⟩
        · exact⟨h,he⟩
        · have:=h1.lr p h;omega
      · rintro⟨h,he⟩;exact⟨.inl h,he⟩)
    have e1:=h1.ent G E (fun q=>F2 q\/(n2=true/\N q)) (n2=true/\e) (fun p q hp hp'=>by
      rw[hG p q hp (by omega)];constructor
      · rintro((h|h|⟨h,h'⟩)|⟨h|⟨h0,h⟩,hn⟩)
        · exact .inl h
        · have:=h2.gr p q h;omega
        · exact .inr ⟨h,.inl h'⟩
        · have:=h2.lr p h;omega
        · exact .inr ⟨h,.inr ⟨h0,hn⟩⟩
      · rintro(h|⟨h,h'|⟨h0,hn⟩⟩)
        · exact .inl (.inl h)
        · exact .inl (.inr (.inr ⟨h,h'⟩))
        · exact .inr ⟨.inr ⟨h0,h⟩,hn⟩) (fun p hp hp'=>by
      rw[hE p hp (by omega)];constructor
      · rintro⟨h|⟨h0,h⟩,he⟩
        · have:=h2.lr p h;omega
        · exact⟨h,h0,he⟩
      · rintro⟨h,h0,he⟩;exact⟨.inr ⟨h0,h⟩,he⟩)
    have c1:∀v,Cont S G E (fun q=>F2 q\/(n2=true/\N q)) (n2=true/\e) v↔∃u' v',v=u'++v'/\B u'/\Cont S G E N e v':=by
      intro v;unfold Cont;rw[sP.or,sP.and,e2 v];constructor
      · rintro(⟨rfl,h0,he⟩|⟨u',v',rfl,_,hb,hc⟩|⟨h0,hn⟩)
        · exact⟨[],[],rfl,h2.nul.1 h0,.inl ⟨rfl,he⟩⟩
        · exact⟨u',v',rfl,hb,hc⟩
        · exact⟨[],v,rfl,h2.nul.1 h0,.inr hn⟩
      · rintro⟨u',v',rfl,hb,hc⟩
        by_cases h0:u'=[]
        · subst h0;have h0:=h2.nul.2 hb
          rcases hc with ⟨rfl,he⟩|hc
          · exact .inl ⟨rfl,h0,he⟩
          · exact .inr (.inr ⟨h0,hc⟩)
        · exact .inr (.inl ⟨u',v',rfl,h0,hb,hc⟩)
    rw[sP.or,sP.and,e1 w,e2 w];constructor
    · rintro(⟨u,v,rfl,h0,ha,hv⟩|⟨h0,u,v,rfl,h0',hb,hv⟩)
      · obtain⟨u',v',rfl,hb,hc⟩:=(c1 v).1 hv;exact⟨u++u',v',by simp,by simp[h0],⟨u,u',rfl,ha,hb⟩,hc⟩
      · exact⟨u,v,rfl,h0',⟨[],u,rfl,h1.nul.1 h0,hb⟩,hv⟩
    · rintro⟨_,v,rfl,h0,⟨u,u',rfl,ha,hb⟩,hv⟩
      by_cases hu:u=[]
      · subst hu;exact .inr ⟨h1.nul.2 ha,u',v,rfl,by simpa using h0,hb,hv⟩
      · exact .inl ⟨u,u'++v,by simp,hu,ha,(c1 _).2 ⟨u',v,rfl,hb,hv⟩⟩
theorem jW.alt (h1:jW S lo mid n1 F1 L1 Fol1 A) (h2:jW S mid hi n2 F2 L2 Fol2 B) (hm1:lo<=mid) (hm2:mid<=hi) :
    jW S lo hi (n1 ||n2) (fun q=>F1 q\/F2 q) (fun q=>L1 q\/L2 q) (fun p q=>Fol1 p q\/Fol2 p q) (fun w=>A w\/B w):=by
  refine⟨fun q h=>?_,fun q h=>?_,fun p q h=>?_,?_,fun G E N e hG hE w=>?_⟩
  · rcases h with h|h
    · have:=h1.fr q h;omega
    · have:=h2.fr q h;omega
  · rcases h with h|h
    · have:=h1.lr q h;omega
    · have:=h2.lr q h;omega
  · rcases h with h|h
    · have:=h1.gr p q h;omega
    · have:=h2.gr p q h;omega
  · rw[Bool.or_eq_true,h1.nul,h2.nul]
  · have e2:=h2.ent G E N e (fun p q hp hp'=>by
      rw[hG p q (by omega) hp'];constructor
      · rintro((h|h)|⟨h|h,hn⟩)
        · have:=h1.gr p q h;omega
        · exact .inl h
        · have:=h1.lr p h;omega
        · exact .inr ⟨h,hn⟩
      · rintro(h|⟨h,hn⟩)
        · exact .inl (.inr h)
        · exact .inr ⟨.inr h,hn⟩) (fun p hp hp'=>by
      rw[hE p (by omega) hp'];constructor
      · rintro⟨h|h,he⟩
        · have:=h1.lr p h;omega
        · exact⟨h,he⟩
      · rintro⟨h,he⟩;exact⟨.inr h,he⟩)
    have e1:=h1.ent G E N e (fun p q hp hp'=>by
      rw[hG p q hp (by omega)];constructor
      · rintro((h|h)|⟨h|h,hn⟩)
        · exact .inl h
        · have:=h2.gr p q h;omega
        · exact .inr ⟨h,hn⟩
        · have:=h2.lr p h;omega
      · rintro(h|⟨h,hn⟩)
        · exact .inl (.inl h)
        · exact .inr ⟨.inl h,hn⟩) (fun p hp hp'=>by
      rw[hE p hp (by omega)];constructor
      · rintro⟨h|h,he⟩
        · exact⟨h,he⟩
        · have:=h2.lr p h;omega
      · rintro⟨h,he⟩;exact⟨.inl h,he⟩)
    rw[sP.or,e1 w,e2 w];constructor
    · rintro(⟨u,v,a,b,c,d⟩|⟨u,v,a,b,c,d⟩)
      · exact⟨u,v,a,b,.inl c,d⟩
      · exact⟨u,v,a,b,.inr c,d⟩
    · rintro⟨u,v,a,b,c|c,d⟩
      · exact .inl ⟨u,v,a,b,c,d⟩
      · exact .inr ⟨u,v,a,b,c,d⟩
theorem fS.open {A:By->Prop}{u:By}(h:fS A u) (h0:u≠[]):∃a b,u=a++b/\a≠[]/\A a/\fS A b:=by
  induction h with
  |nil=>exact absurd rfl h0
  | @cons a b ha hb ih =>
    by_cases e:a=[]
    · subst e;exact ih (by simpa using h0)
    · exact⟨a,b,rfl,e,ha,hb⟩
theorem jW.BY (h:jW S lo hi null F L Fol A){G:Nat->Nat->Prop}{E N:Nat->Prop}{e:Prop}(hG:∀p q,lo<=p->p<hi->(G p q↔(Fol p q\/(L p/\F q))\/(L p/\N q))) (hE:∀p,lo<=p->p<hi->(E p↔L p/\e)) (w:By) :
    sP S G E F w↔∃u v,w=u++v/\u≠[]/\fS A u/\Cont S G E N e v:=by
  have e1:=h.ent G E (fun q=>F q\/N q) e (fun p q hp hp'=>by
    rw[hG p q hp hp'];constructor
    · rintro((h|⟨h,h'⟩)|⟨h,h'⟩)
      · exact .inl h
      · exact .inr ⟨h,.inl h'⟩
      · exact .inr ⟨h,.inr h'⟩
    · rintro(h|⟨h,h'|h'⟩)
      · exact .inl (.inl h)
      · exact .inl (.inr ⟨h,h'⟩)
      · exact .inr ⟨h,h'⟩) hE
  have c1:∀v,Cont S G E (fun q=>F q\/N q) e v↔Cont S G E N e v\/sP S G E F v:=fun v=>by
    unfold Cont;rw[sP.or];constructor
    · rintro(h|h|h)
      · exact .inl (.inl h)
      · exact .inr h
      · exact .inl (.inr h)
    · rintro((h|h)|h)
      · exact .inl h
      · exact .inr (.inr h)
      · exact .inr (.inl h)
  generalize hn:w.length=n
  induction n using Nat.strongRecOn generalizing w with
  |_ n ih =>
    constructor
    · intro hw;obtain⟨u,v,rfl,h0,ha,hv⟩:=(e1 w).1 hw;have hul:0<u.length:=List.length_pos_iff.2 h0
      rcases (c1 v).1 hv with hv|hv
      · exact⟨u,v,rfl,h0,by simpa using fS.cons ha .nil,hv⟩
      · obtain⟨u',v',rfl,_,hs,hc⟩:=(ih v.length (by rw[<-hn];simp;omega) v rfl).1 hv;exact⟨u++u',v',by simp,by simp[h0],.cons ha hs,hc⟩
    · rintro⟨u,v,rfl,h0,hs,hc⟩;obtain⟨a,b,rfl,ha0,ha,hb⟩:=hs.open h0;have hal:0<a.length:=List.length_pos_iff.2 ha0;refine(e1 _).2 ⟨a,b++v,by simp,ha0,ha,(c1 _).2 ?_⟩
      by_cases hb0:b=[]
      · subst hb0;exact .inl hc
      · exact .inr ((ih (b++v).length (by rw[<-hn];simp;omega) _ rfl).2 ⟨b,v,rfl,hb0,hb,hc⟩)
theorem jW.star (h:jW S lo hi null F L Fol A) (null':Bool) (hn:null'=true):jW S lo hi null' F L (fun p q=>Fol p q\/(L p/\F q)) (fS A):=by
  refine⟨h.fr,h.lr,fun p q k=>?_,by simp[hn,fS.nil],fun G E N e hG hE w=>h.BY hG hE w⟩
  rcases k with k|⟨k,k'⟩
  · exact h.gr p q k
  · exact⟨h.lr p k,h.fr q k'⟩
theorem tD {A:By->Prop}{w:By}(h0:w≠[]):(∃u v,w=u++v/\A u/\fS A v)↔fS A w:=by
  constructor
  · rintro⟨u,v,rfl,ha,hs⟩;exact .cons ha hs
  · intro h;obtain⟨a,b,rfl,_,ha,hb⟩:=h.open h0;exact⟨a,b,rfl,ha,hb⟩
theorem AL {A:By->Prop}:(∃u v,([]:By)=u++v/\A u/\fS A v)↔A []:=by
  constructor
  · rintro⟨u,v,h,ha,_⟩;rw[(List.append_eq_nil_iff.1 h.symm).1] at ha;exact ha
  · intro h;exact⟨[],[],rfl,h,.nil⟩
theorem jW.plus (h:jW S lo hi null F L Fol A):jW S lo hi null F L (fun p q=>Fol p q\/(L p/\F q)) (fun w=>∃u v,w=u++v/\A u/\fS A v):=by
  have k:=h.star true rfl;refine⟨k.fr,k.lr,k.gr,by rw[h.nul];exact AL.symm,fun G E N e hG hE w=>?_⟩;rw[k.ent G E N e hG hE w];constructor
  · rintro⟨u,v,a,b,c,d⟩;exact⟨u,v,a,b,(tD b).2 c,d⟩
  · rintro⟨u,v,a,b,c,d⟩;exact⟨u,v,a,b,(tD b).1 c,d⟩
theorem jW.opt (h:jW S lo hi null F L Fol A):jW S lo hi true F L Fol (fun w=>w=[]\/A w):=by
  refine⟨h.fr,h.lr,h.gr,by simp,fun G E N e hG hE w=>?_⟩;rw[h.ent G E N e hG hE w];constructor
  · rintro⟨u,v,a,b,c,d⟩;exact⟨u,v,a,b,.inr c,d⟩
  · rintro⟨u,v,a,b,c|c,d⟩
    · exact absurd c b
    · exact⟨u,v,a,b,c,d⟩
end
inductive sN (ss:List aH):Nat->Nat->Prop where
  |refl (i:Nat):sN ss i i
  |step {i j k:Nat}{x:aH}:ss[i]? =some x->x.kind=0->j∈x.to->sN ss j k->sN ss i k
theorem sN.snoc {ss:List aH}{i j k:Nat}{x:aH}(h:sN ss i j) (hx:ss[j]? =some x) (hk:x.kind=0) (ht:k∈x.to):sN ss i k:=by
  induction h with
  |refl=>exact .step hx hk ht (.refl _)
  |step a b c _ ih=>exact .step a b c (ih hx)
structure BJ (ss:List aH) (T todo:List Nat) (seen:List Bool):Prop where
  len:seen.length=ss.length
  inn:∀j∈todo,j<ss.length
  sound:∀i,(seen[i]? =some true\/i∈todo)->∃t∈T,sN ss t i
  cl:∀(i:Nat) (x:aH),seen[i]? =some true->ss[i]? =some x->x.kind=0->∀j∈x.to,seen[j]? =some true\/j∈todo
  all:∀t∈T,seen[t]? =some true\/t∈todo
theorem xO {l:List Nat}{i:Nat}(h:l.getLast? =some i):l=l.dropLast++[i]:=by
  obtain⟨h0,rfl⟩:=List.getLast?_eq_some_iff.1 h;simp
theorem oJ {ss:List aH}{T:List Nat}(hg:Good ss):∀(n:Nat) (todo:List Nat) (seen:List Bool),todo.length+o8 ss seen<=n->BJ ss T todo seen->BJ ss T [] (gu ss n todo seen)
  | 0,todo,seen,hn,k=>by
    have:todo=[]:=List.length_eq_zero_iff.1 (by omega);subst this;exact k
  |n+1,todo,seen,hn,k=>by
    unfold gu;split
    · rename_i h;have:todo=[]:=List.getLast?_eq_none_iff.1 h;subst this;exact k
    · rename_i i h;have hsp:=xO h;have hlen:todo.length=todo.dropLast.length+1:=by rw[hsp];simp
      have hi:i∈todo:=by rw[hsp];simp
      have hmem:∀j,j∈todo->j∈todo.dropLast\/j=i:=fun j hj=>by rw[hsp] at hj;simpa using hj
      have hsub:∀j,j∈todo.dropLast->j∈todo:=fun j hj=>by rw[hsp];simp[hj]
      split
      · rename_i hs;refine oJ hg n _ _ (by omega) ⟨k.len,fun j hj=>k.inn j (hsub j hj),fun j hj=>k.sound j (hj.imp id (hsub j)),fun j x a b c d e=>?_,fun t ht=>?_⟩
        · rcases k.cl j x a b c d e with h1|h1
          · exact .inl h1
          · rcases hmem d h1 with h2|rfl
            · exact .inr h2
            · exact .inl hs
        · rcases k.all t ht with h1|h1
          · exact .inl h1
          · rcases hmem t h1 with h2|rfl
            · exact .inr h2
            · exact .inl hs
      · rename_i hs;have hil:=k.inn i hi;obtain⟨x,hx⟩:∃x,ss[i]? =some x:=⟨_,List.getElem?_eq_getElem hil⟩
        have hf:seen[i]? =some false:=by
          obtain⟨b,hb⟩:∃b,seen[i]? =some b:=⟨_,List.getElem?_eq_getElem (by rw[k.len];exact hil)⟩
          cases b
          · exact hb
          · exact absurd hb hs
        have hp:=uy ss seen i x hx hf;have hself:(seen.set i true)[i]? =some true:=by rw[List.getElem?_set_self (by rw[k.len];exact hil)]
        have hset:∀j,seen[j]? =some true->(seen.set i true)[j]? =some true:=fun j hj=>by
          by_cases e:i=j
          · subst e;exact hself
          · rw[List.getElem?_set_ne e];exact hj
        have hget:∀j,(seen.set i true)[j]? =some true->j=i\/seen[j]? =some true:=fun j hj=>by
          by_cases e:i=j
          · exact .inl e.symm
          · rw[List.getElem?_set_ne e] at hj;exact .inr hj
        rw[hx];simp only;obtain⟨t0,ht0,he0⟩:=k.sound i (.inr hi);have hxm:x∈ss:=List.mem_of_getElem? hx;generalize hnew:(if x.kind=0 then todo.dropLast++x.to else todo.dropLast)=new
        have hin:∀j,j∈new->j∈todo.dropLast\/(x.kind=0/\j∈x.to):=fun j hj=>by
          subst hnew;split at hj
          · rename_i hk
            rcases List.mem_append.1 hj with h1|h1
            · exact .inl h1
            · exact .inr ⟨hk,h1⟩
          · exact .inl hj
        have hold:∀j,j∈todo.dropLast->j∈new:=fun j hj=>by
          subst hnew;split
          · exact List.mem_append_left _ hj
          · exact hj
        have hbig:new.length<=todo.dropLast.length+x.to.length:=by
          subst hnew;split<;>simp
        refine oJ hg n _ _ (by omega) ⟨by rw[List.length_set];exact k.len,fun j hj=>?_,fun j hj=>?_,fun j y a b c d e=>?_,fun t ht=>?_⟩
        · rcases hin j hj with h1|⟨_,h1⟩
          · exact k.inn j (hsub j h1)
          · exact hg x hxm j h1
        · rcases hj with h1|h1
          · rcases hget j h1 with rfl|h2
            · exact⟨t0,ht0,he0⟩
            · exact k.sound j (.inl h2)
          · rcases hin j h1 with h2|⟨hk,h2⟩
            · exact k.sound j (.inr (hsub j h2))
            · exact⟨t0,ht0,he0.snoc hx hk h2⟩
        · rcases hget j a with rfl|a
          · rw[hx] at b;cases b;refine .inr ?_;rw[if_pos c] at hnew;subst hnew;exact List.mem_append_right _ e
          · rcases k.cl j y a b c d e with h1|h1
            · exact .inl (hset d h1)
            · rcases hmem d h1 with h2|rfl
              · exact .inr (hold d h2)
              · exact .inl hself
        · rcases k.all t ht with h1|h1
          · exact .inl (hset t h1)
          · rcases hmem t h1 with h2|rfl
            · exact .inr (hold t h2)
            · exact .inl hself
theorem fy {ss:List aH}(hg:Good ss){todo:List Nat}(ht:∀j∈todo,j<ss.length) (j:Nat):j∈closed ss todo↔∃x,ss[j]? =some x/\x.kind≠0/\∃t∈todo,sN ss t j:=by
  unfold closed;split
  · rename_i h;have:todo=[]:=List.length_eq_zero_iff.1 h;subst this;simp
  · have h0:∀i:Nat,(List.replicate ss.length false)[i]? ≠some true:=fun i hi=>by rw[List.getElem?_replicate] at hi;split at hi<;>cases hi
    have hi0:BJ ss todo todo (List.replicate ss.length false):=⟨by simp,ht,fun i hi=>hi.elim (fun hi=>absurd hi (h0 i)) fun hi=>⟨i,hi,.refl i⟩,fun i x hi=>absurd hi (h0 i),fun t h=>.inr h⟩
    have hi:=oJ hg (todo.length+o8 ss (List.replicate ss.length false)) todo _ (Nat.le_refl _) hi0;generalize gu ss (todo.length+o8 ss (List.replicate ss.length false)) todo (List.replicate ss.length false)=out at hi;simp only[List.mem_filter,List.mem_range,Bool.and_eq_true,bne_iff_ne,ne_eq];constructor
    · rintro⟨hj,h1,h2⟩;obtain⟨x,hx⟩:∃x,ss[j]? =some x:=⟨_,List.getElem?_eq_getElem hj⟩
      rw[hx] at h2;have h1:out[j]? =some true:=by simpa using h1
      exact⟨x,hx,by simpa using h2,hi.sound j (.inl h1)⟩
    · rintro⟨x,hx,hk,t,ht',he⟩
      have key:∀a b,sN ss a b->out[a]? =some true->out[b]? =some true:=by
        intro a b he
        induction he with
        |refl=>exact id
        |step hy hk hm _ ih =>
          intro ha;refine ih ?_
          rcases hi.cl _ _ ha hy hk _ hm with h1|h1
          · exact h1
          · cases h1
      have h1:=key _ _ he (by
        rcases hi.all t ht' with h1|h1
        · exact h1
        · cases h1)
      refine⟨(List.getElem?_eq_some_iff.1 hx).1,by rw[h1];rfl,by rw[hx];simpa using hk⟩
theorem Acc.through {ss:List aH}{fin:Nat->Prop}{i j:Nat}(h:sN ss i j){w:By}{n:Nat}(k:Acc ss fin n j w):∃m,Acc ss fin m i w:=by
  induction h with
  |refl=>exact⟨n,k⟩
  |step a b c _ ih=>obtain⟨m,hm⟩:=ih k;exact⟨m+1,.sW a b c hm⟩
theorem Acc.stop {ss:List aH}{fin:Nat->Prop}(hf:je ss fin){w:By}{n i:Nat}(k:Acc ss fin n i w):∃j x,sN ss i j/\ss[j]? =some x/\x.kind≠0/\∃m,Acc ss fin m j w:=by
  induction k with
  |done hq=>obtain⟨x,hx,hk⟩:=hf _ hq;exact⟨_,x,.refl _,hx,by omega,_,.done hq⟩
  |sW a b c _ ih=>obtain⟨j,x,he,hr⟩:=ih;exact⟨j,x,.step a b c he,hr⟩
  |eat a b c d e _=>exact⟨_,_,.refl _,a,by omega,_,.eat a b c d e⟩
def s9 (ss:List aH) (fin:Nat->Prop) (T:List Nat) (w:By):Prop:=∃j∈T,∃n,Acc ss fin n j w
theorem r6 {ss:List aH}{fin:Nat->Prop}(hf:je ss fin) (hg:Good ss){todo:List Nat}(ht:∀j∈todo,j<ss.length) (w:By):s9 ss fin (closed ss todo) w↔s9 ss fin todo w:=by
  constructor
  · rintro⟨j,hj,n,h⟩;obtain⟨x,hx,hk,t,ht',he⟩:=(fy hg ht j).1 hj;exact⟨t,ht',h.through he⟩
  · rintro⟨t,ht',n,h⟩;obtain⟨j,x,he,hx,hk,hm⟩:=h.stop hf;exact⟨j,(fy hg ht j).2 ⟨x,hx,hk,t,ht',he⟩,hm⟩
theorem gG (ss:List aH) (c:UInt8) (k:Nat):∀(l a:List Nat),k∈stepG ss c l a↔k∈a\/∃j∈l,∃x,ss[j]? =some x/\iE x c=true/\k∈x.to
  | [],a=>by simp[stepG]
  |j::r,a=>by
    rw[stepG,gG ss c k r];cases hx:ss[j]? with
    |none=>simp[hx]
    |some x =>
      simp only;cases ho:iE x c with
      |true=>simp[hx,ho,or_assoc]
      |false=>simp[hx,ho]
def Flat (ss:List aH) (T:List Nat):Prop:=∀j∈T,∃x,ss[j]? =some x/\x.kind≠0
theorem kO {ss:List aH}(hg:Good ss){todo:List Nat}(ht:∀j∈todo,j<ss.length):Flat ss (closed ss todo):=fun j hj=>by
  obtain⟨x,hx,hk,_⟩:=(fy hg ht j).1 hj;exact⟨x,hx,hk⟩
theorem qx {ss:List aH}(hg:Good ss) (c:UInt8) (T:List Nat):∀j∈stepG ss c T [],j<ss.length:=fun j hj=>by
  rcases (gG ss c j T []).1 hj with h|⟨i,_,x,hx,_,hm⟩
  · cases h
  · exact hg x (List.mem_of_getElem? hx) j hm
theorem qw {ss:List aH}(hg:Good ss) (c:UInt8) (T:List Nat):Flat ss (cH ss c T):=by
  unfold cH;split
  · intro j hj;cases hj
  · exact kO hg (qx hg c T)
theorem y8 {ss:List aH}{fin:Nat->Prop}(hf:je ss fin) (hg:Good ss){T:List Nat}(hT:Flat ss T) (c:UInt8) (w:By):s9 ss fin (cH ss c T) w↔s9 ss fin T (c::w):=by
  unfold cH;split
  · rename_i h0;constructor
    · rintro⟨j,hj,_⟩;cases hj
    · rintro⟨j,hj,_⟩;obtain⟨x,hx,_⟩:=hT j hj;have:=(List.getElem?_eq_some_iff.1 hx).1;omega
  · rw[r6 hf hg (qx hg c T)];constructor
    · rintro⟨k,hk,n,h⟩
      rcases (gG ss c k T []).1 hk with h1|⟨j,hj,x,hx,ho,hm⟩
      · cases h1
      · simp only[iE,Bool.and_eq_true,decide_eq_true_eq] at ho;exact⟨j,hj,n+1,.eat hx ho.1 ho.2 hm h⟩
    · rintro⟨j,hj,n,h⟩;obtain⟨x,hx,hk⟩:=hT j hj;cases h with
      |sW hy hk0 _ _=>rw[hx] at hy;cases hy;exact absurd hk0 hk
      |eat hy hk1 hc hm h=>exact⟨_,(gG ss c _ T []).2 (.inr ⟨j,hj,_,hy,by simp[iE,hk1,hc],hm⟩),_,h⟩
def jT (ss:List aH) (r:Nat) (q:Nat):Prop:=∃x,ss[q]? =some x/\x.kind=2/\x.rule=r
theorem qm (ss:List aH) (r:Nat):je ss (jT ss r):=fun _ ⟨x,hx,hk,_⟩=>⟨x,hx,hk⟩
theorem BC {ss:List aH}{r:Nat}{T:List Nat}(hT:Flat ss T):s9 ss (jT ss r) T []↔∃j∈T,jT ss r j:=by
  constructor
  · rintro⟨j,hj,n,h⟩;obtain⟨x,hx,hk⟩:=hT j hj;cases h with
    |done hq=>exact⟨j,hj,hq⟩
    |sW hy hk0 _ _=>rw[hx] at hy;cases hy;exact absurd hk0 hk
  · rintro⟨j,hj,hq⟩;exact⟨j,hj,0,.done hq⟩
def gf (p:Nat->Prop) (r:Int):Prop:=(r= -1/\∀i,¬p i)\/∃n:Nat,r=n/\p n/\∀i,p i->n<=i
theorem wW {p q:Nat->Prop}{a b:Int}(ha:gf p a) (hb:gf q b) (h:∀i,p i↔q i):a=b:=by
  rcases ha with ⟨rfl,h1⟩|⟨n,rfl,h1,h2⟩<;>rcases hb with ⟨rfl,h3⟩|⟨m,rfl,h3,h4⟩
  · rfl
  · exact absurd ((h m).2 h3) (h1 m)
  · exact absurd ((h n).1 h1) (h3 n)
  · have:=h2 m ((h m).2 h3);have:=h4 n ((h n).1 h1);congr 1;omega
theorem sy (ss:List aH):∀(l:List Nat) (b:Int) (p:Nat->Prop),gf p b->gf (fun r=>p r\/∃j∈l,jT ss r j) (nV ss l b)
  | [],b,p,h=>by
    rw[nV]
    rcases h with ⟨rfl,h1⟩|⟨n,rfl,h1,h2⟩
    · exact .inl ⟨rfl,fun i h=>by rcases h with h|⟨_,h,_⟩;exact h1 i h;cases h⟩
    · exact .inr ⟨n,rfl,.inl h1,fun i h=>by rcases h with h|⟨_,h,_⟩;exact h2 i h;cases h⟩
  |j::l,b,p,h=>by
    rw[nV]
    have key:∀b',gf (fun r=>p r\/jT ss r j) b'->gf (fun r=>p r\/∃k∈j::l,jT ss r k) (nV ss l b'):=fun b' hb'=>by
      have:=sy ss l b' _ hb'
      have e:(fun r=>(p r\/jT ss r j)\/∃k∈l,jT ss r k)=(fun r=>p r\/∃k∈j::l,jT ss r k):=by
        funext r;simp[or_assoc]
      rwa [e] at this
    have no:(∀r,¬jT ss r j)->gf (fun r=>p r\/jT ss r j) b:=fun hno=>by
      have e:(fun r=>p r\/jT ss r j)=p:=by funext r;simp[hno r]
      rw[e];exact h
    cases hx:ss[j]? with
    |none=>exact key b (no fun r ⟨x,hx',_⟩=>by rw[hx] at hx';cases hx')
    |some x =>
      simp only
      by_cases hk:x.kind=2
      · have hfin:∀r,jT ss r j↔x.rule=r:=fun r=>⟨fun⟨y,hy,_,hr⟩=>by rw[hx] at hy;cases hy;exact hr,fun hr=>⟨x,hx,hk,hr⟩⟩
        by_cases hb:nU x b=true
        · rw[if_pos hb];refine key _ (.inr ⟨x.rule,rfl,.inr ((hfin _).2 rfl),fun i hi=>?_⟩);simp only[nU,decide_eq_true_eq] at hb
          rcases hi with hi|hi
          · rcases h with ⟨rfl,h1⟩|⟨n,rfl,h1,h2⟩
            · exact absurd hi (h1 i)
            · have:=h2 i hi;omega
          · rw[(hfin i).1 hi];exact Nat.le_refl _
        · rw[if_neg hb];refine key _ ?_;simp only[nU,decide_eq_true_eq] at hb
          rcases h with ⟨rfl,h1⟩|⟨n,rfl,h1,h2⟩
          · exact absurd ⟨hk,.inl (by decide)⟩ hb
          · refine .inr ⟨n,rfl,.inl h1,fun i hi=>?_⟩
            rcases hi with hi|hi
            · exact h2 i hi
            · have:=(hfin i).1 hi;omega
      · rw[if_neg (by simp[nU,hk])];exact key b (no fun r ⟨y,hy,hk2,_⟩=>by rw[hx] at hy;cases hy;exact hk hk2)
def iP (ss:List aH) (st:Nat) (w:By):List Nat:=w.foldl (fun T c=>cH ss c T) (b9 ss st)
theorem zh {ss:List aH}(hg:Good ss){st:Nat}(hst:st<ss.length) (w:By):Flat ss (iP ss st w):=by
  have h0:Flat ss (b9 ss st):=by
    unfold b9;split
    · intro j hj;cases hj
    · exact kO hg (fun j hj=>by simp at hj;omega)
  unfold iP;generalize b9 ss st=T at h0
  induction w generalizing T with
  |nil=>exact h0
  |cons c w ih=>exact ih _ (qw hg c T)
theorem AF {ss:List aH}{fin:Nat->Prop}(hf:je ss fin) (hg:Good ss){st:Nat}(hst:st<ss.length) (w v:By):s9 ss fin (iP ss st w) v↔∃n,Acc ss fin n st (w++v):=by
  have h0:Flat ss (b9 ss st)/\∀v,s9 ss fin (b9 ss st) v↔∃n,Acc ss fin n st v:=by
    unfold b9;rw[if_neg (by omega)];have ht:∀j∈[st],j<ss.length:=fun j hj=>by simp at hj;omega
    refine⟨kO hg ht,fun v=>?_⟩;rw[r6 hf hg ht];simp[s9]
  unfold iP
  have key:∀(w:By) (T:List Nat),Flat ss T->(s9 ss fin (w.foldl (fun T c=>cH ss c T) T) v↔s9 ss fin T (w++v)):=by
    intro w
    induction w with
    |nil=>intro T _;rfl
    |cons c w ih =>
      intro T hT;rw[List.foldl_cons,ih _ (qw hg c T),y8 hf hg hT];rfl
  rw[key w _ h0.1,h0.2]
theorem s7 {ss:List aH}(hg:Good ss){st:Nat}(hst:st<ss.length) (w:By):gf (fun r=>∃n,Acc ss (jT ss r) n st w) (cm ss (iP ss st w)):=by
  unfold cm;rw[if_neg (by omega)];have h:=sy ss (iP ss st w) (-1) (fun _=>False) (.inl ⟨rfl,fun _ h=>h⟩)
  have e:(fun r=>False\/∃j∈iP ss st w,jT ss r j)=(fun r=>∃n,Acc ss (jT ss r) n st w):=by
    funext r
    have:=AF (qm ss r) hg hst w [];rw[BC (zh hg hst w),List.append_nil] at this;simpa using this
  rw[e] at h;exact h
def dy (ss:List aH):Nat:=(ss.map fun x=>x.to.length+1).sum
theorem eD (a b:List aH):dy (a++b)=dy a+dy b:=by simp[dy]
theorem vt:∀(ss:List aH) (i:Nat) (y x:aH),ss[i]? =some y->dy (ss.set i x)+y.to.length=dy ss+x.to.length
  | [],i,y,x,h=>by simp at h
  |z::r,0,y,x,h=>by simp at h;subst h;simp[dy];omega
  |z::r,i+1,y,x,h=>by have:=vt r i y x (by simpa using h);simp[dy] at *;omega
theorem AK:∀(ss:List aH) (seen:List Bool),o8 ss seen<=dy ss
  | [],_=>by simp[o8]
  |x::r,[]=>by simp[o8]
  |x::r,b::s=>by
    have:=AK r s;simp only[o8,dy,List.map_cons,List.sum_cons] at *;split<;>omega
mutual
theorem qi:∀(x:Nd) (ss:List aH) (to:Nat),dy (lay x ss to).1+1<=dy ss+4*fV x
  |.mk k s kids,ss,to=>by
    rw[lay];simp only[fV];split
    · rw[eD];simp[dy];omega
    · split
      · have:=rz kids ss to;omega
      · split
        · have:=rD kids ss to;have hl:=kE kids ss to;simp only[eD];simp[dy] at *;omega
        · split
          · have:=rm kids ss to;simp only[eD];simp[dy] at *;omega
          · split
            · have:=rm kids (ss++[⟨0,0,[],0⟩]) ss.length;have h2:=vt (aM kids (ss++[⟨0,0,[],0⟩]) ss.length).1 ss.length ⟨0,0,[],0⟩ ⟨0,0,[(aM kids (ss++[⟨0,0,[],0⟩]) ss.length).2,to],0⟩ (by rw[mB kids _ _ _ (by simp)];simp);rw[eD] at this;simp[dy] at *;omega
            · simp;omega
theorem rz:∀(l:List Nd) (ss:List aH) (to:Nat),dy (aD l ss to).1<=dy ss+4*cQ l
  | [],ss,to=>by simp[aD]
  |x::r,ss,to=>by
    rw[aD];have h1:=rz r ss to;have h2:=qi x (aD r ss to).1 (aD r ss to).2;simp only[cQ];omega
theorem rD:∀(l:List Nd) (ss:List aH) (to:Nat),dy (aC l ss to).1+l.length<=dy ss+4*cQ l
  | [],ss,to=>by simp[aC]
  |x::r,ss,to=>by
    rw[aC];have h1:=qi x ss to;have h2:=rD r (lay x ss to).1 to;simp only[cQ,List.length_cons];omega
theorem rm:∀(l:List Nd) (ss:List aH) (to:Nat),dy (aM l ss to).1<=dy ss+4*cQ l
  | [],ss,to=>by simp[aM]
  |x::r,ss,to=>by
    rw[aM];have h1:=qi x ss to;simp only[cQ];omega
end
theorem Good.append {a b:List aH}(ha:Good a) (hb:∀x∈b,∀j∈x.to,j<(a++b).length):Good (a++b):=fun x hx j hj=>by
  rcases List.mem_append.1 hx with h|h
  · have:=ha x h j hj;simp;omega
  · exact hb x h j hj
theorem Good.set {a:List aH}(ha:Good a){i:Nat}{y:aH}(hy:∀j∈y.to,j<a.length):Good (a.set i y):=fun x hx j hj=>by
  rw[List.length_set]
  rcases List.mem_or_eq_of_mem_set hx with h|rfl
  · exact ha x h j hj
  · exact hy j hj
mutual
theorem nG:∀(x:Nd) (ss:List aH) (to:Nat),Good ss->to<ss.length->Good (lay x ss to).1/\(lay x ss to).2<(lay x ss to).1.length
  |.mk k s kids,ss,to,hg,ht=>by
    rw[lay];split
    · exact⟨hg.append (by intro x hx j hj;simp at hx;subst hx;simp at hj;subst hj;simp;omega),by simp⟩
    · split
      · exact pn kids ss to hg ht
      · split
        · have h:=pE kids ss to hg ht;exact⟨h.1.append (by intro x hx j hj;simp at hx;subst hx;have:=h.2 j hj;simp;omega),by simp⟩
        · split
          · have h:=pg kids ss to hg ht;have hl:=cu kids ss to;exact⟨h.1.append (by intro x hx j hj;simp at hx;subst hx;simp at hj;simp;rcases hj with rfl|rfl<;>omega),by simp⟩
          · split
            · have h:=pg kids (ss++[⟨0,0,[],0⟩]) ss.length (hg.append (by intro x hx j hj;simp at hx;subst hx;cases hj)) (by simp);have hl:=cu kids (ss++[⟨0,0,[],0⟩]) ss.length;simp only[List.length_append,List.length_singleton] at hl;refine⟨h.1.set (by intro j hj;simp at hj;rcases hj with rfl|rfl;exact h.2;omega),?_⟩;simp only[List.length_set];split
              · exact h.2
              · omega
            · exact⟨hg,ht⟩
theorem pn:∀(l:List Nd) (ss:List aH) (to:Nat),Good ss->to<ss.length->Good (aD l ss to).1/\(aD l ss to).2<(aD l ss to).1.length
  | [],ss,to,hg,ht=>by rw[aD];exact⟨hg,ht⟩
  |x::r,ss,to,hg,ht=>by
    rw[aD];have h1:=pn r ss to hg ht;exact nG x _ _ h1.1 h1.2
theorem pE:∀(l:List Nd) (ss:List aH) (to:Nat),Good ss->to<ss.length->Good (aC l ss to).1/\∀j∈(aC l ss to).2,j<(aC l ss to).1.length
  | [],ss,to,hg,ht=>by rw[aC];exact⟨hg,fun j hj=>by cases hj⟩
  |x::r,ss,to,hg,ht=>by
    rw[aC];have h1:=nG x ss to hg ht;have hl:=cD x ss to;have h2:=pE r (lay x ss to).1 to h1.1 (by omega);have hl2:=cj r (lay x ss to).1 to;refine⟨h2.1,fun j hj=>?_⟩
    rcases List.mem_cons.1 hj with rfl|hj
    · simp only;omega
    · exact h2.2 j hj
theorem pg:∀(l:List Nd) (ss:List aH) (to:Nat),Good ss->to<ss.length->Good (aM l ss to).1/\(aM l ss to).2<(aM l ss to).1.length
  | [],ss,to,hg,ht=>by rw[aM];exact⟨hg,ht⟩
  |x::r,ss,to,hg,ht=>by rw[aM];exact nG x ss to hg ht
end
structure EH (i:Nat) (rules:List By) (ss:List aH) (t:List Nat) (ss':List aH) (t':List Nat):Prop where
  pre:∀j,j<ss.length->ss'[j]? =ss[j]?
  len:ss.length<=ss'.length/\ss'.length<=ss.length+402*rules.length
  tot:dy ss'<=dy ss+1605*rules.length
  good:Good ss->(∀j∈t,j<ss.length)->Good ss'/\∀j∈t',j<ss'.length
  starts:∃t2,t'=t++t2/\t2.length=rules.length/\∀k s,rules[k]? =some s->(az s).2=0/\∃a b,t2[k]? =some b/\ss.length<=a/\ss'[a]? =some ⟨2,0,[],i+k⟩/\∀F fin,lJ F ss' ss.length->je F fin->Splits F fin b a (xb (az s).1)
theorem mz:∀(rules:List By) (i:Nat) (ss:List aH) (t:List Nat) (ss':List aH) (t':List Nat),cZ i rules ss t= .inr (ss',t')->EH i rules ss t ss' t'
  | [],i,ss,t,ss',t',h=>by
    rw[cZ] at h;cases h;exact⟨fun _ _=>rfl,by simp,by simp,fun a b=>⟨a,b⟩,[],by simp,rfl,fun k s h=>by simp at h⟩
  |s::r,i,ss,t,ss',t',h=>by
    rw[cZ] at h;split at h
    · cases h
    · rename_i he;have he:(az s).2=0:=by simpa using he
      have hsm:=dB he;have ih:=mz r _ _ _ _ _ h;have hpre:=eO (az s).1 (ss++[⟨2,0,[],i⟩]) ss.length;have hlen:=cD (az s).1 (ss++[⟨2,0,[],i⟩]) ss.length;have htot:=qi (az s).1 (ss++[⟨2,0,[],i⟩]) ss.length;simp only[List.length_append,List.length_singleton,eD] at hpre hlen htot;have hL:dy [(⟨2,0,[],i⟩:aH)]=1:=by simp[dy]
      generalize hly:lay (az s).1 (ss++[⟨2,0,[],i⟩]) ss.length=ly at *;obtain⟨t2,ht2,htl,hst⟩:=ih.starts;refine⟨fun j hj=>?_,⟨?_,?_⟩,?_,fun hg ht=>?_,ly.2::t2,by simp[ht2],by simp[htl],fun k s' hk=>?_⟩
      · rw[ih.pre j (by omega),hpre j (by omega),List.getElem?_append_left hj]
      · have:=ih.len.1;omega
      · have:=ih.len.2;simp only[List.length_cons];omega
      · have:=ih.tot;simp only[List.length_cons];omega
      · have hgl:=nG (az s).1 (ss++[⟨2,0,[],i⟩]) ss.length (hg.append (by intro x hx j hj;simp at hx;subst hx;cases hj)) (by simp);rw[hly] at hgl
        exact ih.good hgl.1 (fun j hj=>by
          rcases List.mem_append.1 hj with h1|h1
          · have:=ht j h1;omega
          · have:j=ly.2:=by simpa using h1
            rw[this];exact hgl.2)
      · cases k with
        |zero =>
          simp at hk;subst hk;refine⟨he,ss.length,ly.2,rfl,Nat.le_refl _,?_,fun F fin hS hF=>?_⟩
          · rw[ih.pre _ (by omega),hpre _ (by omega)];simp
          · have:=jx hF (az s).1 (ss++[⟨2,0,[],i⟩]) ss.length (fun j h1 h2=>by
              rw[hly] at h2 ⊢;simp only[List.length_append,List.length_singleton] at h1;rw[hS j (by omega) (by have:=ih.len.1;omega)];exact ih.pre j h2)
            rwa [hly] at this
        |succ k =>
          obtain⟨h0,a,b,hb,hla,ha,hsp⟩:=hst k s' (by simpa using hk);exact⟨h0,a,b,by simpa using hb,by omega,by rw[ha];simp;omega,fun F fin hS hF=>hsp F fin (fun j h1 h2=>hS j (by omega) h2) hF⟩
structure Made (rules:List By) (ss:List aH) (st:Nat):Prop where
  good:Good ss
  stl:st<ss.length
  len:ss.length<=30000
  tot:dy ss<=110000
  num:rules.length<=64
  lng:∀r w,(∃n,Acc ss (jT ss r) n st w)↔∃s,rules[r]? =some s/\xb (az s).1 w
theorem jv {rules:List By}{ss:List aH}{st:Nat}(h:cC rules= .inr (ss,st)):Made rules ss st:=by
  unfold cC at h;split at h
  · cases h
  · rename_i hn;split at h
    · cases h
    · rename_i ss0 t hm;split at h
      · cases h
      · cases h;have k:=mz _ _ _ _ _ _ hm;obtain⟨t2,ht2,htl,hst⟩:=k.starts;have ht:t=t2:=by simpa using ht2
        subst ht;have hl:=k.len.2;have htot:=k.tot;have hgd:=k.good (by intro x hx;cases hx) (by intro j hj;cases hj);simp only[List.length_nil] at hl;have h0:dy ([]:List aH)=0:=rfl;have hF:(ss0++[⟨0,0,t,0⟩])[ss0.length]? =some ⟨0,0,t,0⟩:=by simp
        have hS:lJ (ss0++[⟨0,0,t,0⟩]) ss0 ([]:List aH).length:=fun i _ h2=>List.getElem?_append_left h2
        refine⟨hgd.1.append (by intro x hx j hj;simp at hx;subst hx;have:=hgd.2 j hj;simp;omega),by simp,by simp;omega,?_,by omega,fun r w=>?_⟩
        · have hq:dy [(⟨0,0,t,0⟩:aH)]=t.length+1:=by simp[dy]
          rw[eD,hq];omega
        · constructor
          · rintro⟨n,hw⟩;obtain⟨m,q',_,hq,hw'⟩:=hw.fork (qm _ r) hF rfl;obtain⟨k',hk'⟩:=List.getElem?_of_mem hq;have hkl:k'<t.length:=(List.getElem?_eq_some_iff.1 hk').1;obtain⟨s,hs⟩:∃s,rules[k']? =some s:=⟨_,List.getElem?_eq_getElem (by omega)⟩
            obtain⟨_,a,b,hb,_,ha,hsp⟩:=hst k' s hs;rw[hk'] at hb;cases hb;obtain⟨u,v,m',rfl,hu,_,hv⟩:=(hsp _ _ hS (qm _ r)).1 _ _ hw';have ha':(ss0++[(⟨0,0,t,0⟩:aH)])[a]? =some ⟨2,0,[],0+k'⟩:=by rw[hS a (Nat.zero_le _) (List.getElem?_eq_some_iff.1 ha).1,ha]
            cases hv with
            |done hfin =>
              obtain⟨x,hx,_,hr⟩:=hfin;rw[ha'] at hx;cases hx;simp only[Nat.zero_add] at hr;subst hr;exact⟨s,hs,by rw[List.append_nil];exact hu⟩
            |sW hx hk _ _=>rw[ha'] at hx;cases hx;cases hk
            |eat hx hk _ _ _=>rw[ha'] at hx;cases hx;cases hk
          · rintro⟨s,hs,hw⟩;obtain⟨_,a,b,hb,_,ha,hsp⟩:=hst r s hs;have ha':(ss0++[(⟨0,0,t,0⟩:aH)])[a]? =some ⟨2,0,[],0+r⟩:=by rw[hS a (Nat.zero_le _) (List.getElem?_eq_some_iff.1 ha).1,ha]
            obtain⟨n,hn⟩:=(hsp _ _ hS (qm _ r)).2 w [] 0 hw (.done ⟨_,ha',rfl,by simp⟩);rw[List.append_nil] at hn;exact⟨n+1,.sW (q':=b) hF rfl (show b∈t from List.mem_of_getElem? hb) hn⟩
theorem ug {f:Nat->Nat}:∀{a b:List Nat},a.Sublist b->(a.map f).sum<=(b.map f).sum
  |_,_,.slnil=>by simp
  |_,_,.cons _ h=>by have:=ug (f:=f) h;simp;omega
  |_,_,.cons_cons _ h=>by have:=ug (f:=f) h;simp;omega
theorem yM:∀ss:List aH,(ss.map fun x=>x.to.length).sum<=dy ss
  | []=>by simp[dy]
  |x::r=>by have:=yM r;simp[dy] at *;omega
theorem zn (ss:List aH):((List.range ss.length).map fun i=>match ss[i]? with|some x=>x.to.length|none=>0).sum<=dy ss:=by
  have:((List.range ss.length).map fun i=>match ss[i]? with|some x=>x.to.length|none=>0)=ss.map fun x=>x.to.length:=by
    apply List.ext_getElem
    · simp
    · intro i h1 h2;simp at h2;simp[h2]
  rw[this];exact yM ss
theorem tj (ss:List aH) (c:UInt8):∀(l a:List Nat),(stepG ss c l a).length<=a.length+(l.map fun i=>match ss[i]? with|some x=>x.to.length|none=>0).sum
  | [],a=>by simp[stepG]
  |j::r,a=>by
    rw[stepG];refine Nat.le_trans (tj ss c r _) ?_;simp only[List.map_cons,List.sum_cons];cases ss[j]? with
    |none=>simp
    |some x=>simp only;split<;>simp<;>omega
theorem y9 {ss:List aH}(c:UInt8){now:List Nat}(h:now.Sublist (List.range ss.length)):(stepG ss c now []).length<=dy ss:=by
  have h1:=tj ss c now [];have h2:=ug (f:=fun i=>match ss[i]? with|some x=>x.to.length|none=>0) h;have h3:=zn ss;simp only[List.length_nil] at h1;omega
theorem y7 (ss:List aH) (c:UInt8):cH ss c []=[]:=by simp[cH,stepG,closed]
theorem j8 (ss:List aH) (st:Nat) (a b:By):iP ss st (a++b)=b.foldl (fun T c=>cH ss c T) (iP ss st a):=by simp[iP,List.foldl_append]
theorem yP (n:Nat):(∀(x:Nd) (st:jb) (i:Nat),i<st.1.length->(bJ n x st).2.1[i]? =st.1[i]?)/\True:=by
  have key:∀m,(∀(x:Nd) (st:jb) (i:Nat),fV x<=m->i<st.1.length->(bJ n x st).2.1[i]? =st.1[i]?)/\(∀(l:List Nd) (p:cL) (st:jb) (i:Nat),cQ l<=m->i<st.1.length->(bB n l p st).2.1[i]? =st.1[i]? /\i<(bB n l p st).2.1.length)/\(∀(l:List Nd) (p:cL) (st:jb) (i:Nat),cQ l<=m->i<st.1.length->(bC n l p st).2.1[i]? =st.1[i]? /\i<(bC n l p st).2.1.length):=by
    intro m
    induction m with
    |zero =>
      refine⟨fun x st i h=>absurd h (by have:=gz x;omega),fun l p st i h hi=>?_,fun l p st i h hi=>?_⟩
      · cases l with
        |nil=>rw[bB];exact⟨rfl,hi⟩
        |cons x r=>exact absurd h (by have:=gz x;simp only[cQ];omega)
      · cases l with
        |nil=>rw[bC];exact⟨rfl,hi⟩
        |cons x r=>exact absurd h (by have:=gz x;simp only[cQ];omega)
    |succ m ih =>
      have hx:∀(x:Nd) (st:jb) (i:Nat),fV x<=m+1->i<st.1.length->(bJ n x st).2.1[i]? =st.1[i]? :=by
        intro x st i h hi;obtain⟨k,s,kids⟩:=x;simp only[fV] at h;rw[bJ];split
        · simp only;rw[List.getElem?_append_left hi]
        · split
          · exact(ih.2.1 kids _ st i (by omega) hi).1
          · split
            · exact(ih.2.2 kids _ st i (by omega) hi).1
            · have h1:(aU n kids st).2.1[i]? =st.1[i]? :=by
                cases kids with
                |nil=>rw[aU]
                |cons x r=>rw[aU];exact ih.1 x st i (by simp only[cQ] at h;omega) hi
              split
              · exact h1
              · split
                · exact h1
                · rfl
      have hlt:∀(x:Nd) (st:jb) (i:Nat),fV x<=m+1->i<st.1.length->i<(bJ n x st).2.1.length:=fun x st i h hi=>by
        have:=hx x st i h hi;rw[List.getElem?_eq_getElem hi] at this;exact(List.getElem?_eq_some_iff.1 this).1
      refine⟨hx,fun l=>?_,fun l=>?_⟩
      · induction l with
        |nil=>intro p st i _ hi;rw[bB];exact⟨rfl,hi⟩
        |cons x r ihl =>
          intro p st i h hi;simp only[cQ] at h;have hp:=gz x;rw[bB];have h1:=ihl (bA p (bJ n x st).1) ((bJ n x st).2.1,aQ p.last (bJ n x st).1.first (bJ n x st).2.2) i (by omega) (hlt x st i (by omega) hi);exact⟨h1.1.trans (hx x st i (by omega) hi),h1.2⟩
      · induction l with
        |nil=>intro p st i _ hi;rw[bC];exact⟨rfl,hi⟩
        |cons x r ihl =>
          intro p st i h hi;simp only[cQ] at h;have hp:=gz x;rw[bC];have h1:=ihl (cI p (bJ n x st).1) (bJ n x st).2 i (by omega) (hlt x st i (by omega) hi);exact⟨h1.1.trans (hx x st i (by omega) hi),h1.2⟩
  exact⟨fun x st i=>(key (fV x)).1 x st i (Nat.le_refl _),trivial⟩
def mT (S:Nat->UInt8->Prop) (sets:List Nat) (lo:Nat):Prop:=∀q,lo<=q->q<sets.length->∀c,S q c↔∃s,sets[q]? =some s/\s.testBit c.toNat=true
theorem mT.sub {S:Nat->UInt8->Prop}{sets s':List Nat}{lo lo':Nat}(h:mT S sets lo) (hlo:lo<=lo') (hle:s'.length<=sets.length) (hpre:∀i,i<s'.length->sets[i]? =s'[i]?):mT S s' lo':=fun q h1 h2 c=>by
  rw[h q (by omega) (by omega) c,hpre q h2]
theorem mF (n:Nat):∀(l:List Nd) (p:cL) (st:jb) (i:Nat),i<st.1.length->(bB n l p st).2.1[i]? =st.1[i]?
  | [],p,st,i,hi=>by rw[bB]
  |x::r,p,st,i,hi=>by
    rw[bB];have h:=(yP n).1 x st i hi;rw[mF n r _ _ i (by rw[List.getElem?_eq_getElem hi] at h;exact(List.getElem?_eq_some_iff.1 h).1)];exact h
theorem mG (n:Nat):∀(l:List Nd) (p:cL) (st:jb) (i:Nat),i<st.1.length->(bC n l p st).2.1[i]? =st.1[i]?
  | [],p,st,i,hi=>by rw[bC]
  |x::r,p,st,i,hi=>by
    rw[bC];have h:=(yP n).1 x st i hi;rw[mG n r _ _ i (by rw[List.getElem?_eq_getElem hi] at h;exact(List.getElem?_eq_some_iff.1 h).1)];exact h
section
variable {S:Nat->UInt8->Prop}(n:Nat)
def C1 (S:Nat->UInt8->Prop) (lo hi:Nat) (p:cL) (bh bh':List (List Bool)) (A:By->Prop):Prop :=
  ∃Fol,jW S lo hi p.null (On p.first) (On p.last) Fol A/\∀a b,Bh bh' a b↔Bh bh a b\/Fol a b
theorem ql (st:jb) (A:By->Prop) (b:Bool) (hA:∀u,A u->u=[]) (hb:b=true↔A []):jW S st.1.length st.1.length b (On (bO n)) (On (bO n)) (fun _ _=>False) A :=
  (Ad A hA hb).congr (fun q=>⟨fun h=>kC n q h,fun h=>h.elim⟩) (fun q=>⟨fun h=>kC n q h,fun h=>h.elim⟩) (fun _ _=>Iff.rfl) (fun _=>Iff.rfl)
mutual
theorem nJ:∀(x:Nd) (st:jb),fD n st->ig x=true->st.1.length+cnt x<=n->mT S (bJ n x st).2.1 st.1.length ->
    C1 S st.1.length (bJ n x st).2.1.length (bJ n x st).1 st.2 (bJ n x st).2.2 (xb x)
  |.mk k s kids,st,hok,hw,hn,hS=>by
    have hwl:ic kids=true:=by simp only[ig,Bool.and_eq_true] at hw;exact hw.2
    simp only[cnt] at hn;rw[bJ] at hS ⊢;unfold xb
    by_cases h1:k=1
    · simp only[if_pos h1,List.length_append,List.length_singleton] at hS hn ⊢;refine⟨fun _ _=>False,jW.byte.congr (fun q=>kB (by omega) q) (fun q=>kB (by omega) q) (fun _ _=>Iff.rfl) (fun u=>?_),fun a b=>by simp⟩;have hS:=hS st.1.length (Nat.le_refl _) (by simp);constructor
      · rintro⟨c,rfl,hc⟩;exact⟨c,rfl,(hS c).2 ⟨s,by simp,hc⟩⟩
      · rintro⟨c,rfl,hc⟩;obtain⟨s',hs',hc⟩:=(hS c).1 hc;simp at hs';subst hs';exact⟨c,rfl,hc⟩
    · simp only[if_neg h1] at hS hn ⊢
      by_cases h2:k=2
      · simp only[if_pos h2] at hS ⊢;have h0:jW S st.1.length st.1.length true (On (bO n)) (On (bO n)) (fun _ _=>False) (fun w=>w=[]):=ql n st _ _ (fun _ h=>h) (by simp);obtain⟨Fol,hG,hB⟩:=pG kids ⟨true,bO n,bO n⟩ st hok (gO n _) hwl (by omega) st.1.length (Nat.le_refl _) hS _ (Bh st.2) _ h0 (fun a b=>⟨fun h=>.inl h,fun h=>h.elim id False.elim⟩);refine⟨Fol,hG.congr (fun _=>Iff.rfl) (fun _=>Iff.rfl) (fun _ _=>Iff.rfl) (fun u=>?_),hB⟩;constructor
        · intro h;exact⟨[],u,rfl,rfl,h⟩
        · rintro⟨a,b,rfl,rfl,h⟩;exact h
      · simp only[if_neg h2] at hS ⊢
        by_cases h3:k=3
        · simp only[if_pos h3] at hS ⊢;have h0:jW S st.1.length st.1.length false (On (bO n)) (On (bO n)) (fun _ _=>False) (fun _=>False):=ql n st _ _ (fun _ h=>h.elim) (by simp);obtain⟨Fol,hG,hB⟩:=pH kids ⟨false,bO n,bO n⟩ st hok (gO n _) hwl (by omega) st.1.length (Nat.le_refl _) hS _ (Bh st.2) _ h0 (fun a b=>⟨fun h=>.inl h,fun h=>h.elim id False.elim⟩);refine⟨Fol,hG.congr (fun _=>Iff.rfl) (fun _=>Iff.rfl) (fun _ _=>Iff.rfl) (fun u=>?_),hB⟩;simp
        · simp only[if_neg h3] at hS ⊢;have k1:=oG n kids st hok
          by_cases h45:k=4\/k=5
          · simp only[if_pos h45] at hS ⊢;have h6:¬k=6:=by omega
            obtain⟨Fol,hG,hB⟩:=pF kids st hok hwl (by omega) hS
            have hB2:∀a b,Bh (aQ (aU n kids st).1.last (aU n kids st).1.first (aU n kids st).2.2) a b↔Bh st.2 a b\/Fol a b\/On (aU n kids st).1.last a/\On (aU n kids st).1.first b:=fun a b=>by
              rw[lE k1.1.last k1.1.first k1.2.1,hB a b,or_assoc]
            by_cases h4:k=4
            · subst h4;simp only[if_neg h6];exact⟨_,hG.star _ (by simp),hB2⟩
            · have h5:k=5:=by omega
              subst h5;simp only[if_neg h6,if_neg h4];exact⟨_,by simpa using hG.plus,hB2⟩
          · simp only[if_neg h45] at hS ⊢;have h4:¬k=4:=fun e=>h45 (.inl e)
            have h5:¬k=5:=fun e=>h45 (.inr e)
            by_cases h6:k=6
            · simp only[if_pos h6] at hS ⊢;obtain⟨Fol,hG,hB⟩:=pF kids st hok hwl (by omega) hS;exact⟨_,hG.opt,hB⟩
            · simp only[if_neg h6,if_neg h4,if_neg h5] at hS ⊢;exact⟨_,ql n st _ _ (fun _ h=>h) (by simp),fun a b=>by simp⟩
theorem pG:∀(l:List Nd) (p:cL) (st:jb),fD n st->cM n p->ic l=true->st.1.length+cE l<=n->∀lo,lo<=st.1.length->mT S (bB n l p st).2.1 lo ->
    ∀(Fol0 B0:Nat->Nat->Prop) (A:By->Prop),jW S lo st.1.length p.null (On p.first) (On p.last) Fol0 A->(∀a b,Bh st.2 a b↔B0 a b\/Fol0 a b) ->
    ∃Fol,jW S lo (bB n l p st).2.1.length (bB n l p st).1.null (On (bB n l p st).1.first) (On (bB n l p st).1.last) Fol (fun w=>∃u v,w=u++v/\A u/\kY l v)/\∀a b,Bh (bB n l p st).2.2 a b↔B0 a b\/Fol a b
  | [],p,st,hok,hp,hw,hn,lo,hlo,hS,Fol0,B0,A,hG,hB=>by
    rw[bB];unfold kY;refine⟨Fol0,hG.congr (fun _=>Iff.rfl) (fun _=>Iff.rfl) (fun _ _=>Iff.rfl) (fun u=>?_),hB⟩;constructor
    · rintro⟨a,b,rfl,h,rfl⟩;simpa using h
    · intro h;exact⟨u,[],by simp,h,rfl⟩
  |x::r,p,st,hok,hp,hw,hn,lo,hlo,hS,Fol0,B0,A,hG,hB=>by
    simp only[ic,Bool.and_eq_true] at hw;simp only[cE] at hn;rw[bB] at hS ⊢;unfold kY;have k1:=dK n x st hok;have hle:=k1.2.2.1;have hle2:=k1.2.2.2 hw.1;have hok2:=iW (S:=(bJ n x st).2.1) hp.last k1.1.first k1.2.1
    have hpre:=mF n r (bA p (bJ n x st).1) ((bJ n x st).2.1,aQ p.last (bJ n x st).1.first (bJ n x st).2.2);have hmono:=(lC n r (bA p (bJ n x st).1) ((bJ n x st).2.1,aQ p.last (bJ n x st).1.first (bJ n x st).2.2) (fA hp k1.1) hok2).2.2.1;obtain⟨Fol,hx,hxB⟩:=nJ x st hok hw.1 (by omega) (hS.sub hlo hmono hpre);have hcat:=hG.cat hx hlo hle
    have hcat':=hcat.congr (F':=On (bA p (bJ n x st).1).first) (L':=On (bA p (bJ n x st).1).last) (fun q=>by
      simp only[bA];cases p.null with
      |true=>simp only[if_pos,true_and];exact nB (by rw[hp.first,k1.1.first]) q
      |false=>simp) (fun q=>by
      simp only[bA];cases (bJ n x st).1.null with
      |true=>simp only[if_pos,true_and];rw[nB (by rw[hp.last,k1.1.last]) q,or_comm]
      |false=>simp) (fun _ _=>Iff.rfl) (fun _=>Iff.rfl)
    obtain⟨Fol',hG',hB'⟩:=pG r (bA p (bJ n x st).1) ((bJ n x st).2.1,aQ p.last (bJ n x st).1.first (bJ n x st).2.2) hok2 (fA hp k1.1) hw.2 (by simp only;omega) lo (by simp only;omega) hS
      (fun a b=>Fol0 a b\/Fol a b\/On p.last a/\On (bJ n x st).1.first b) B0 _ hcat' (fun a b=>by
        rw[lE hp.last k1.1.first k1.2.1,hxB a b,hB a b];simp only[or_assoc])
    · refine⟨Fol',hG'.congr (fun _=>Iff.rfl) (fun _=>Iff.rfl) (fun _ _=>Iff.rfl) (fun u=>?_),hB'⟩;constructor
      · rintro⟨a,b,rfl,ha,c,d,rfl,hc,hd⟩;exact⟨a++c,d,by simp,⟨a,c,rfl,ha,hc⟩,hd⟩
      · rintro⟨_,d,rfl,⟨a,c,rfl,ha,hc⟩,hd⟩;exact⟨a,c++d,by simp,ha,c,d,rfl,hc,hd⟩
theorem pH:∀(l:List Nd) (p:cL) (st:jb),fD n st->cM n p->ic l=true->st.1.length+cE l<=n->∀lo,lo<=st.1.length->mT S (bC n l p st).2.1 lo ->
    ∀(Fol0 B0:Nat->Nat->Prop) (A:By->Prop),jW S lo st.1.length p.null (On p.first) (On p.last) Fol0 A->(∀a b,Bh st.2 a b↔B0 a b\/Fol0 a b) ->
    ∃Fol,jW S lo (bC n l p st).2.1.length (bC n l p st).1.null (On (bC n l p st).1.first) (On (bC n l p st).1.last) Fol (fun w=>A w\/jG l w)/\∀a b,Bh (bC n l p st).2.2 a b↔B0 a b\/Fol a b
  | [],p,st,hok,hp,hw,hn,lo,hlo,hS,Fol0,B0,A,hG,hB=>by
    rw[bC];unfold jG;exact⟨Fol0,hG.congr (fun _=>Iff.rfl) (fun _=>Iff.rfl) (fun _ _=>Iff.rfl) (fun u=>by simp),hB⟩
  |x::r,p,st,hok,hp,hw,hn,lo,hlo,hS,Fol0,B0,A,hG,hB=>by
    simp only[ic,Bool.and_eq_true] at hw;simp only[cE] at hn;rw[bC] at hS ⊢;unfold jG;have k1:=dK n x st hok;have hle:=k1.2.2.1;have hle2:=k1.2.2.2 hw.1;have hpre:=mG n r (cI p (bJ n x st).1) (bJ n x st).2;have hmono:=(lD n r (cI p (bJ n x st).1) (bJ n x st).2 (fC hp k1.1) k1.2.1).2.2.1;obtain⟨Fol,hx,hxB⟩:=nJ x st hok hw.1 (by omega) (hS.sub hlo hmono hpre);have hcat:=hG.alt hx hlo hle
    obtain⟨Fol',hG',hB'⟩:=pH r (cI p (bJ n x st).1) (bJ n x st).2 k1.2.1 (fC hp k1.1) hw.2 (by omega) lo (by omega) hS
      (fun a b=>Fol0 a b\/Fol a b) B0 _ (hcat.congr (fun q=>nB (by rw[hp.first,k1.1.first]) q) (fun q=>nB (by rw[hp.last,k1.1.last]) q) (fun _ _=>Iff.rfl) (fun _=>Iff.rfl)) (fun a b=>by
        rw[hxB a b,hB a b];simp only[or_assoc])
    exact⟨Fol',hG'.congr (fun _=>Iff.rfl) (fun _=>Iff.rfl) (fun _ _=>Iff.rfl) (fun u=>by simp only[or_assoc]),hB'⟩
theorem pF:∀(l:List Nd) (st:jb),fD n st->ic l=true->st.1.length+cE l<=n->mT S (aU n l st).2.1 st.1.length ->
    C1 S st.1.length (aU n l st).2.1.length (aU n l st).1 st.2 (aU n l st).2.2 (iL l)
  | [],st,hok,hw,hn,hS=>by
    rw[aU];unfold iL;exact⟨_,ql n st _ _ (fun _ h=>h) (by simp),fun a b=>by simp⟩
  |x::r,st,hok,hw,hn,hS=>by
    simp only[ic,Bool.and_eq_true] at hw;simp only[cE] at hn;rw[aU] at hS ⊢;unfold iL;exact nJ x st hok hw.1 (by omega) hS
end
end
structure cz (r:dN) (n:Nat):Prop where
  pos:0<r.sets.length
  sets:r.sets.length<=n
  rows:r.behind.length=n
  each:∀b∈r.behind,b.length=n
  last:r.last.length=n
theorem AQ {x:Nd}(hw:ig x=true):cz (fq x) (cnt x+1):=by
  have h0:fD (cnt x+1) ([0],List.replicate (cnt x+1) (bO (cnt x+1))):=⟨by simp,fun b hb=>by rw[(List.mem_replicate.1 hb).2];exact bZ _⟩
  have k:=dK (cnt x+1) x ([0],List.replicate (cnt x+1) (bO (cnt x+1))) h0;have h1:=k.2.2.1;have h2:=k.2.2.2 hw;simp only[List.length_singleton] at h1 h2;refine⟨by simp only[fq];omega,by simp only[fq];omega,by simp only[fq,List.length_set];exact k.2.1.rows,fun b hb=>?_,by simp only[fq,List.length_set];exact k.1.last⟩;simp only[fq] at hb
  rcases List.mem_or_eq_of_mem_set hb with h|rfl
  · exact k.2.1.each b h
  · exact k.1.first
abbrev Aa (r:dN):Nat->By->Prop:=BF (fun q c=>∃s,r.sets[q]? =some s/\s.testBit c.toNat=true) (fun p q=>Bh r.behind p q/\0<q/\q<r.sets.length) (On r.last)
theorem Df {x:Nd}(hw:ig x=true) (w:By):Aa (fq x) 0 w↔xb x w:=by
  have h0:fD (cnt x+1) ([0],List.replicate (cnt x+1) (bO (cnt x+1))):=⟨by simp,fun b hb=>by rw[(List.mem_replicate.1 hb).2];exact bZ _⟩
  have k:=dK (cnt x+1) x ([0],List.replicate (cnt x+1) (bO (cnt x+1))) h0;have hrows:=k.2.1.rows;have hlast:=k.1.last;obtain⟨Fol,hG,hB⟩:=nJ (S:=fun q c=>∃s,(fq x).sets[q]? =some s/\s.testBit c.toNat=true) (cnt x+1) x ([0],List.replicate (cnt x+1) (bO (cnt x+1))) h0 hw (by simp;omega) (fun q _ _ c=>Iff.rfl);simp only[List.length_singleton] at hG hB
  have hB0:∀a b,¬Bh (List.replicate (cnt x+1) (bO (cnt x+1))) a b:=by
    rintro a b ⟨l,hl,ho⟩;rw[List.getElem?_replicate] at hl;split at hl
    · cases hl;exact kC _ _ ho
    · cases hl
  have hb0:∀q,Bh (fq x).behind 0 q↔On (bJ (cnt x+1) x ([0],List.replicate (cnt x+1) (bO (cnt x+1)))).1.first q:=fun q=>by
    simp only[fq,Bh];rw[List.getElem?_set_self (by omega)];simp
  have hbp:∀p q,0<p->(Bh (fq x).behind p q↔Fol p q):=fun p q hp=>by
    have:Bh (fq x).behind p q↔Bh (bJ (cnt x+1) x ([0],List.replicate (cnt x+1) (bO (cnt x+1)))).2.2 p q:=by
      simp only[fq,Bh];rw[List.getElem?_set_ne (by omega)]
    rw[this,hB p q];exact⟨fun h=>h.elim (fun h=>(hB0 _ _ h).elim) id,.inr⟩
  have he0:On (fq x).last 0↔(bJ (cnt x+1) x ([0],List.replicate (cnt x+1) (bO (cnt x+1)))).1.null=true:=by
    simp only[fq,On];rw[List.getElem?_set_self (by omega)];simp
  have hep:∀p,0<p->(On (fq x).last p↔On (bJ (cnt x+1) x ([0],List.replicate (cnt x+1) (bO (cnt x+1)))).1.last p):=fun p hp=>by
    simp only[fq,On];rw[List.getElem?_set_ne (by omega)]
  have hsl:(fq x).sets.length=(bJ (cnt x+1) x ([0],List.replicate (cnt x+1) (bO (cnt x+1)))).2.1.length:=rfl
  have hE:=hG.ent (fun p q=>Bh (fq x).behind p q/\0<q/\q<(fq x).sets.length) (On (fq x).last) (fun _=>False) True (fun p q hp _=>by
    rw[hbp p q (by omega)];constructor
    · rintro⟨h,_⟩;exact .inl h
    · rintro(h|⟨_,h⟩)
      · have:=hG.gr p q h;exact⟨h,by omega,by omega⟩
      · exact h.elim) (fun p hp _=>by rw[hep p (by omega)];simp)
  cases w with
  |nil =>
    rw[<-hG.nul,<-he0];constructor
    · intro h;cases h with|done h=>exact h
    · exact .done
  |cons c w =>
    have h1:Aa (fq x) 0 (c::w)↔sP (fun q c=>∃s,(fq x).sets[q]? =some s/\s.testBit c.toNat=true) (fun p q=>Bh (fq x).behind p q/\0<q/\q<(fq x).sets.length) (On (fq x).last) (On (bJ (cnt x+1) x ([0],List.replicate (cnt x+1) (bO (cnt x+1)))).1.first) (c::w):=by
      constructor
      · intro h;cases h with
        |go hg hs hp=>exact⟨c,w,rfl,_,(hb0 _).1 hg.1,hs,hp⟩
      · rintro⟨c',w',e,q,hq,hs,hp⟩;cases e;have:=hG.fr q hq;exact .go ⟨(hb0 _).2 hq,by omega,by omega⟩ hs hp
    rw[h1,hE];constructor
    · rintro⟨u,v,e,_,hu,⟨rfl,_⟩|hv⟩
      · rw[e];simpa using hu
      · exact(tY hv).elim
    · intro h;exact⟨c::w,[],by simp,by simp,h,.inl ⟨rfl,trivial⟩⟩
def mj (r:dN):List Bool:=(bO r.sets.length).set 0 true
def mo:List Bool->List (List Bool)->List Bool->List Bool
  |a::at_,b::bh,out=>mo at_ bh (if a then fU out b else out)
  |_,_,out=>out
def p7 (c:UInt8):Nat->List Bool->List Nat->List Bool
  |q,o::out,s::sets=>(o && decide (0<q) && s.testBit c.toNat)::p7 c (q+1) out sets
  |_,_,_=>[]
def eX (r:dN) (at_:List Bool) (c:UInt8):List Bool:=p7 c 0 (mo at_ r.behind (bO at_.length)) r.sets
def kI (r:dN) (at_:List Bool):Bool:=(List.zipWith (· && ·) at_ r.last).any id
def iZ (at_:List Bool):Bool:=at_.any id
theorem De {a b:List Bool}(h:a.length<=b.length) (i:Nat):On (fU a b) i↔i<a.length/\(On a i\/On b i):=by
  unfold On fU;rw[List.getElem?_zipWith]
  by_cases hi:i<a.length
  · rw[List.getElem?_eq_getElem hi,List.getElem?_eq_getElem (by omega)];simp[hi]
  · rw[List.getElem?_eq_none (by omega)];simp[hi]
theorem nu:∀(at_:List Bool) (bh:List (List Bool)) (out:List Bool),(∀b∈bh,out.length<=b.length)->(mo at_ bh out).length=out.length
  | [],_,_,_=>by simp[mo]
  |_::_,[],_,_=>by simp[mo]
  |a::at_,b::bh,out,h=>by
    rw[mo]
    have hl:(if a then fU out b else out).length=out.length:=by
      split
      · have:=h b (by simp);simp[fU];omega
      · rfl
    rw[nu at_ bh _ (fun b hb=>by rw[hl];exact h b (by simp[hb])),hl]
theorem yG:∀(at_:List Bool) (bh:List (List Bool)) (out:List Bool),(∀b∈bh,out.length<=b.length)->at_.length<=bh.length->∀q,On (mo at_ bh out) q↔q<out.length/\(On out q\/∃p,On at_ p/\Bh bh p q)
  | [],bh,out,_,_,q=>by
    have e:mo [] bh out=out:=by simp[mo]
    rw[e];constructor
    · intro h;exact⟨(List.getElem?_eq_some_iff.1 h).1,.inl h⟩
    · rintro⟨_,h|⟨p,h,_⟩⟩
      · exact h
      · simp[On] at h
  |_::_,[],_,_,h,_=>by simp at h
  |a::at_,b::bh,out,h,hl,q=>by
    rw[mo];have hbl:=h b (by simp)
    have hlen:(if a then fU out b else out).length=out.length:=by
      split
      · simp[fU];omega
      · rfl
    rw[yG at_ bh _ (fun b hb=>by rw[hlen];exact h b (by simp[hb])) (by simpa using hl) q,hlen]
    have e:(∃p,On (a::at_) p/\Bh (b::bh) p q)↔(a=true/\On b q)\/∃p,On at_ p/\Bh bh p q:=by
      constructor
      · rintro⟨p,hp,hb⟩;cases p with
        |zero =>
          obtain⟨x,hx,ho⟩:=hb;simp at hx;subst hx;exact .inl ⟨by simpa [On] using hp,ho⟩
        |succ p=>exact .inr ⟨p,by simpa [On] using hp,by simpa [Bh] using hb⟩
      · rintro(⟨ha,ho⟩|⟨p,hp,hb⟩)
        · exact⟨0,by simp[On,ha],b,by simp,ho⟩
        · exact⟨p+1,by simpa [On] using hp,by simpa [Bh] using hb⟩
    rw[e];cases a with
    |true =>
      simp only[if_pos,true_and];rw[De hbl];constructor
      · rintro⟨hq,⟨_,h|h⟩|h⟩
        · exact⟨hq,.inl h⟩
        · exact⟨hq,.inr (.inl h)⟩
        · exact⟨hq,.inr (.inr h)⟩
      · rintro⟨hq,h|h|h⟩
        · exact⟨hq,.inl ⟨hq,.inl h⟩⟩
        · exact⟨hq,.inl ⟨hq,.inr h⟩⟩
        · exact⟨hq,.inr h⟩
    |false=>simp
theorem sw (c:UInt8):∀(q:Nat) (out:List Bool) (sets:List Nat),out.length=sets.length->(p7 c q out sets).length=out.length
  |_,[],[],_=>rfl
  |_,[],_::_,h=>by simp at h
  |_,_::_,[],h=>by simp at h
  |q,o::out,s::sets,h=>by rw[p7];simp[sw c (q+1) out sets (by simpa using h)]
theorem yI (c:UInt8):∀(k:Nat) (out:List Bool) (sets:List Nat) (q:Nat),On (p7 c k out sets) q↔On out q/\0<k+q/\∃s,sets[q]? =some s/\s.testBit c.toNat=true
  |k,[],sets,q=>by simp[p7,On]
  |k,o::out,[],q=>by simp[p7,On]
  |k,o::out,s::sets,q=>by
    rw[p7];cases q with
    |zero=>simp[On,and_assoc]
    |succ q =>
      have:=yI c (k+1) out sets q;simp only[On,List.getElem?_cons_succ] at this ⊢;rw[this];have e:k+1+q=k+(q+1):=by omega
      rw[e]
theorem mh (r:dN):(mj r).length=r.sets.length:=by simp[mj,bZ]
theorem oh {r:dN}{n:Nat}(hr:cz r n){a:List Bool}(ha:a.length=r.sets.length) (c:UInt8):(eX r a c).length=r.sets.length:=by
  have h1:=hr.sets;unfold eX;rw[sw,nu,bZ,ha]
  · intro b hb;rw[hr.each b hb,bZ,ha];exact h1
  · rw[nu,bZ,ha];intro b hb;rw[hr.each b hb,bZ,ha];exact h1
theorem nA {r:dN}{n:Nat}(hr:cz r n){a:List Bool}(ha:a.length=r.sets.length) (c:UInt8) (q:Nat):On (eX r a c) q↔(∃p,On a p/\Bh r.behind p q/\0<q/\q<r.sets.length)/\∃s,r.sets[q]? =some s/\s.testBit c.toNat=true:=by
  have h1:=hr.sets;unfold eX;rw[yI,yG _ _ _ (by intro b hb;rw[hr.each b hb,bZ,ha];exact h1) (by rw[ha,hr.rows];exact h1),bZ,ha];constructor
  · rintro⟨⟨hq,h|⟨p,hp,hb⟩⟩,h0,hs⟩
    · exact(kC _ _ h).elim
    · exact⟨⟨p,hp,hb,by omega,hq⟩,hs⟩
  · rintro⟨⟨p,hp,hb,h0,hq⟩,hs⟩;exact⟨⟨hq,.inr ⟨p,hp,hb⟩⟩,by omega,hs⟩
theorem uB (l:List Bool):iZ l=true↔∃p,On l p:=by
  unfold iZ On;rw[List.any_eq_true];constructor
  · rintro⟨b,hb,h⟩;obtain⟨p,hp⟩:=List.getElem?_of_mem hb;exact⟨p,by rw[hp];simpa using h⟩
  · rintro⟨p,hp⟩;exact⟨true,List.mem_of_getElem? hp,rfl⟩
theorem yH (r:dN) (a:List Bool):kI r a=true↔∃p,On a p/\On r.last p:=by
  unfold kI;rw[List.any_eq_true];constructor
  · rintro⟨b,hb,h⟩;obtain⟨p,hp⟩:=List.getElem?_of_mem hb;rw[List.getElem?_zipWith] at hp;split at hp
    · rename_i x y hx hy;cases hp;simp at h;exact⟨p,by rw[On,hx,h.1],by rw[On,hy,h.2]⟩
    · cases hp
  · rintro⟨p,h1,h2⟩;refine⟨true,?_,rfl⟩
    apply List.mem_of_getElem? (i:=p)
    rw[List.getElem?_zipWith,h1,h2];rfl
def fk (r:dN) (w:By):List Bool:=w.foldl (eX r) (mj r)
theorem j7 {r:dN}{n:Nat}(hr:cz r n) (w:By):(fk r w).length=r.sets.length:=by
  have key:∀(w:By) (a:List Bool),a.length=r.sets.length->(w.foldl (eX r) a).length=r.sets.length:=by
    intro w
    induction w with
    |nil=>intro a h;exact h
    |cons c w ih=>intro a h;exact ih _ (oh hr h c)
  exact key w _ (mh r)
theorem AE {r:dN}{n:Nat}(hr:cz r n) (w v:By):(∃p,On (fk r w) p/\Aa r p v)↔Aa r 0 (w++v):=by
  have key:∀(w:By) (a:List Bool),a.length=r.sets.length->((∃p,On (w.foldl (eX r) a) p/\Aa r p v)↔∃p,On a p/\Aa r p (w++v)):=by
    intro w
    induction w with
    |nil=>intro a _;exact Iff.rfl
    |cons c w ih =>
      intro a ha;rw[List.foldl_cons,ih _ (oh hr ha c)];constructor
      · rintro⟨q,hq,hv⟩;obtain⟨⟨p,hp,hb⟩,hs⟩:=(nA hr ha c q).1 hq;exact⟨p,hp,.go hb hs hv⟩
      · rintro⟨p,hp,h⟩;cases h with
        |go hb hs hv=>exact⟨_,(nA hr ha c _).2 ⟨⟨p,hp,hb⟩,hs⟩,hv⟩
  unfold fk;rw[key w _ (mh r)];constructor
  · rintro⟨p,hp,h⟩;have:=(kB hr.pos p).1 hp;subst this;exact h
  · intro h;exact⟨0,(kB hr.pos 0).2 rfl,h⟩
theorem wE {x:Nd}(hw:ig x=true) (w:By):kI (fq x) (fk (fq x) w)=true↔xb x w:=by
  rw[yH,<-Df hw w];have h:=AE (AQ hw) w [];rw[List.append_nil] at h;rw[<-h];constructor
  · rintro⟨p,h1,h2⟩;exact⟨p,h1,.done h2⟩
  · rintro⟨p,h1,h2⟩;cases h2 with
    |done h2=>exact⟨p,h1,h2⟩
def eJ:Nat->List dN->By->Int
  |_,[],_=> -1
  |i,r::rs,l=>if kI r (fk r l)=true then i else eJ (i+1) rs l
theorem xj {r:dN}{n:Nat}(hr:cz r n){a:List Bool}(ha:a.length=r.sets.length) (h:iZ a=false) (c:UInt8):iZ (eX r a c)=false:=by
  cases e:iZ (eX r a c) with
  |false=>rfl
  |true =>
    obtain⟨q,hq⟩:=(uB _).1 e;obtain⟨⟨p,hp,_⟩,_⟩:=(nA hr ha c q).1 hq;rw[(uB a).2 ⟨p,hp⟩] at h;cases h
theorem Bj {r:dN}{a:List Bool}(h:iZ a=false):kI r a=false:=by
  cases e:kI r a with
  |false=>rfl
  |true =>
    obtain⟨p,hp,_⟩:=(yH r a).1 e;rw[(uB a).2 ⟨p,hp⟩] at h;cases h
theorem lS:∀(xs:List Nd) (i:Nat) (l:By),(∀x∈xs,ig x=true)->gf (fun r=>∃j x,xs[j]? =some x/\r=i+j/\xb x l) (eJ i (xs.map fq) l)
  | [],i,l,_=>.inl ⟨rfl,fun r ⟨j,x,hx,_⟩=>by simp at hx⟩
  |x::xs,i,l,hw=>by
    simp only[List.map_cons,eJ]
    by_cases h:kI (fq x) (fk (fq x) l)=true
    · rw[if_pos h];exact .inr ⟨i,rfl,⟨0,x,rfl,rfl,(wE (hw x (by simp)) l).1 h⟩,fun r ⟨j,y,_,hr,_⟩=>by omega⟩
    · rw[if_neg h];have ih:=lS xs (i+1) l (fun y hy=>hw y (by simp[hy]))
      have e:(fun r=>∃j y,xs[j]? =some y/\r=i+1+j/\xb y l)=(fun r=>∃j y,(x::xs)[j]? =some y/\r=i+j/\xb y l):=by
        funext r
        refine propext ⟨fun⟨j,y,h1,h2,h3⟩=>⟨j+1,y,by simpa using h1,by omega,h3⟩,fun⟨j,y,h1,h2,h3⟩=>?_⟩;cases j with
        |zero=>simp at h1;subst h1;exact absurd ((wE (hw x (by simp)) l).2 h3) h
        |succ j=>exact⟨j,y,by simpa using h1,by omega,h3⟩
      rw[e] at ih;exact ih
end Go.Proofs.YtbbjkiigpdjaaaaDoor
namespace Go.Proofs.YtbbjkiigpdjaaaaDoor
open Go.Proofs.Tryd
open Go Go.Lw
set_option maxRecDepth 20000 set_option maxHeartbeats 4000000
section
variable {h:af}{O:Nat->Prop}{vb vs vl v:Value}{a:List Bool}{rb n:Nat}
theorem fO {O':Nat->Prop}{va:Value}{b:List Bool}(ha:aP .bool h O va a) (hb:aP .bool h O' vb b) (hl:a.length<=b.length) (hn:a.length<=1000000) :
 an Tryd.prog 45 #[va,vb] h (b8 fun r h'=>aT Value.bool h' h.size 4 r (fU a b)/\ak h h'):=by
 obtain⟨oa,na,ca,rfl,hsa⟩:=ha.open;obtain⟨ob,nb,cb,rfl,hsb⟩:=hb.open;have hna:=hsa.len;have hnb:=hsb.len;have hol:(fU a b).length=na:=by simp[fU];omega
 subst hna;refine cV ?_;refine aa ?_;refine xo rfl (aL.cY underlying61 H.BP H.BS rfl rfl rfl (by omega) (by decide)) ?_;rintro _ h1 ⟨rfl,hk1,e1⟩;refine aa ?_;refine fG (σ:=Nat) (fun i=>[(6,.int .i64 (i:Nat))]) (fun i h'=>i<=a.length/\ak h h'/\aT Value.bool h' h.size 4 (.slice (some ⟨h.size,0,none⟩) a.length a.length) ((fU a b).take i++List.replicate (a.length-i) false)) (fun i=>a.length-i) (0) ⟨Nat.zero_le _,e1,by unfold aT;simpa using hk1⟩ rfl ?_;rintro i g ⟨hi,eg,ho⟩ ih;refine aa ?_;refine bF (fun hlt=>?_) (fun hlt=>?_)
 · have hia:i<a.length:=by omega
   have hsa':=hsa.mv (Mv.ah eg);have hsb':=hsb.mv (Mv.ah eg);obtain⟨ba,oo,x,hoa,_,hx,hcx⟩:=hsa'.at hia;obtain⟨bb,oo2,y,hob,_,hy,hcy⟩:=hsb'.at (show i<nb by omega);obtain⟨g',c',hv',_,_,hcell,hfz,hset⟩:=ho.at (wD hol hia);rw[wC hol hi] at hv';cases hv';have horx:(fU a b)[i]? =some (x ||y):=by rw[fU,List.getElem?_zipWith,hx,hy]
   have hor:(fU a b)[i]'(by omega)=(x ||y):=(List.getElem?_eq_some_iff.1 horx).2;have hset:=hset (x ||y);have hfs:=rU (l:=fU a b) (z:=false) hol hia;rw[hor] at hfs;rw[hfs] at hset
   have fin:∀d,d=(x ||y)->∀g2,g2=bY g ⟨h.size,0+i*1,none⟩ (.bool d)->ak h g2/\aT Value.bool g2 h.size 4 (.slice (some ⟨h.size,0,none⟩) a.length a.length) ((fU a b).take (i+1)++List.replicate (a.length-(i+1)) false):=by
    rintro d rfl g2 rfl;exact⟨⟨by rw[fj];exact eg.size,fun b hb k=>by rw[(Ext.bY (M:=fun b=>b=h.size) g _ _ rfl).block b (by have:=eg.size;omega) (by omega)];exact eg.block b hb k⟩,hset⟩
   iterate 3 refine bT ?_
   refine cU ?_
   iterate 4 refine aY ?_
   refine xp rfl (bK rfl rfl i rfl hoa) ?_;refine xp rfl (aE rfl hcx) ?_;refine aa ?_;refine ie 22 (fun hg=>?_) (fun hg=>?_)
   · iterate 4 refine DJ ?_
     refine aY ?_;refine xp rfl (bK rfl rfl i rfl rfl) ?_;refine bN rfl (aI H.tg rfl rfl rfl hcell hfz) ?_;rintro _ g2 ⟨rfl,hg2⟩;refine aa ?_;exact ih (i+1) ⟨hia,fin _ (by rw[hg];rfl) g2 hg2⟩
   · iterate 2 refine aY ?_
     refine xp rfl (bK rfl rfl i rfl hob) ?_;refine xp rfl (aE rfl hcy) ?_;refine aY ?_;refine xp rfl (bK rfl rfl i rfl rfl) ?_;refine bN rfl (aI H.tg rfl rfl rfl hcell hfz) ?_;rintro _ g2 ⟨rfl,hg2⟩;refine aa ?_;exact ih (i+1) ⟨hia,fin _ (by rw[hg];rfl) g2 hg2⟩
 · obtain rfl:i=a.length:=by omega
   refine aa ?_;refine bU ?_;rw[List.take_of_length_le (by omega),Nat.sub_self,List.replicate_zero,List.append_nil] at ho;exact⟨_,rfl,ho,eg⟩
def CE (n:Nat):Prop:=∀{x:Nd}{h:af}{O:Nat->Prop}{w:Value},fV x<=n->fV x<=1000000->aA h O (aX x.kind x.set w) x ->
 an Tryd.prog 26 #[.agg (aX x.kind x.set w).toArray] h (b8 fun r h'=>r= .int .i64 (cnt x:Nat)/\ak h h')
theorem Bo:∀n,CE n:=by
 intro n
 induction n with
 |zero=>intro x h O w hn _ _;have:=gz x;omega
 |succ n ihn =>
  intro x h O w hn hbig hx;obtain⟨w',hw',hkids⟩:=hx.open;have:w'=w:=by simp[aX] at hw';exact hw'.symm
  subst this;obtain⟨oa,kn,kc,rfl,hsl⟩:=hkids.open;have hkl:=hsl.len;have hkm:=hsl.le;have hkc:=hsl.cap;have hszl:=qb x.kids;have hsx:cQ x.kids+1=fV x:=by cases x;simp[fV,Nd.kids]
  have hcx:cnt x=(if x.kind=1 then 1 else 0)+cE x.kids:=by cases x;rw[cnt];rfl
  refine cV ?_;refine aa ?_;refine xo rfl (wY) ?_;rintro _ h1 ⟨rfl,hk1,e1,z1⟩;refine aa ?_;have hk1:aB h1 h.size 49 (aX x.kind x.set (.slice oa kn kc)):=hk1
  have go:∀(_u:Unit) (h':af) (ρ':Env),Sub [(1,.pointer (some ⟨h.size,0,none⟩)),(3,.int .i64 ((if x.kind=1 then 1 else 0:Nat):Int))] ρ'->h'=h1->G Tryd.prog 26 f26 [.code [1,1,1]] ρ' h' (b8 fun r h'=>r= .int .i64 (cnt x:Nat)/\ak h h'):=by
   rintro _u h1' ρ' hsub rfl;refine G.sub (ρ':=[(1,.pointer (some ⟨h.size,0,none⟩)),(3,.int .i64 ((if x.kind=1 then 1 else 0:Nat):Int))]) hsub ?_;refine aa ?_;refine G.loop (σ:=Nat) (fun i=>[(1,.pointer (some ⟨h.size,0,none⟩)),(3,.int .i64 (((if x.kind=1 then 1 else 0)+cE (x.kids.take i):Nat):Int)),(4,.int .i64 (i:Nat))]) (fun i h'=>i<=kn/\ak h1' h') (fun i=>kn-i) (0) rfl ⟨rfl,rfl,rfl,trivial⟩ ⟨Nat.zero_le _,Ext.refl _ _⟩ ?_;rintro i g ⟨hi,eg⟩ ih;have hkg:=hk1.ah eg;refine hU rfl ?_;refine DL func26 1 rfl ?_;refine xp rfl (fL (off:=5) underlying49 rfl rfl H.C7 rfl) ?_;refine xp rfl (dR H.DB rfl (hkg.cell (i:=5) rfl)) ?_;refine xp rfl (av.kD underlying47 rfl) ?_;refine Ah 1 [1,3,4,12] rfl ?_;refine sM rfl rfl (fun hlt=>?_) (fun hlt=>?_)
   · have hik:i<x.kids.length:=by omega
     obtain⟨y,hy⟩:∃y,x.kids[i]? =some y:=⟨_,List.getElem?_eq_getElem hik⟩
     have hsl':=hsl.mv (Mv.ah (e1.trans eg));obtain⟨b,o,cs,ha,hob,hrow,hnd⟩:=hsl'.get i y hy;obtain⟨w2,rfl,_⟩:=aA.open hnd;have hsy:=qa hy;have hct:=uS (x.kids.take (i+1))
     have htk:cE (x.kids.take (i+1))=cE (x.kids.take i)+cnt y:=by
      rw[List.take_add_one,hy,pR];simp[cE]
     have hst:cQ (x.kids.take (i+1))<=cQ x.kids:=by
      have:cQ (x.kids.take (i+1)++x.kids.drop (i+1))=cQ x.kids:=by rw[List.take_append_drop]
      rw[dY] at this;omega
     have hif:(if x.kind=1 then 1 else 0:Nat)<=1:=by split<;>omega
     refine kZ rfl ?_;refine hU rfl ?_;refine G.block rfl rfl ?_;refine G.oA func26 rfl ?_;refine DM 1 rfl rfl (fL (off:=5) underlying49 rfl rfl H.C7 rfl) ?_;refine xp rfl (dR H.DB rfl (hkg.cell (i:=5) rfl)) ?_;refine Ag 1 rfl ?_;refine xp rfl (av.gS underlying47 H.Au rfl rfl i rfl ha (by omega)) ?_;refine xp rfl (av.iS H.Dz H.Au rfl hrow (by first|rfl|(simp;done)|(simp;omega))) ?_;refine xo rfl (gY (vs:=[_]) func26 rfl H.Fl rfl (an.BN (ihn (x:=y) (by omega) (by omega) hnd))) ?_;rintro _ g2 ⟨rfl,e2⟩;refine xp rfl (av.nT rfl rfl ⟨by omega,by omega⟩) ?_;refine Ah 1 [1,3,4,12] rfl ?_;refine G.oK ?_;refine G.oA func26 rfl ?_;refine DM 1 rfl rfl (av.nT rfl rfl ⟨by omega,by omega⟩) ?_;refine Ah 1 [1,3,4,12] rfl ?_;exact ih (i+1) _ _ ⟨rfl,by show _=_;rw[htk,<-Nat.add_assoc];push_cast;rfl,rfl,trivial⟩ ⟨by omega,eg.trans e2⟩ (by omega)
   · have:i=x.kids.length:=by omega
     subst this;refine aa ?_;refine bU ?_;exact⟨_,rfl,by rw[List.take_length,hcx];rfl,e1.trans eg⟩
  refine xp rfl (aE rfl (hk1.cell (i:=0) rfl)) ?_;refine aa ?_;refine bF (fun hk=>?_) (fun hk=>?_)
  · have hk':x.kind=1:=by omega
    refine cU ?_;refine aY ?_;refine eW ?_;exact go () _ _ ⟨rfl,by rw[if_pos hk'];rfl,trivial⟩ rfl
  · have hk':¬x.kind=1:=by omega
    refine bT ?_;exact go () _ _ ⟨rfl,by rw[if_neg hk'];rfl,trivial⟩ rfl
def EE (h:af) (O:Nat->Prop) (cs:List Value) (x:List Bool):Prop:=∃v,cs=[v]/\aP .bool h O v x
def mL:gI (List Bool):=⟨1,by decide,EE,fun h=>by obtain⟨v,rfl,_⟩:=h;rfl,fun h=>by
 obtain⟨v,rfl,hv⟩:=h;intro u hu;simp at hu;subst hu;exact aP.wz hv,fun h m=>by
 obtain⟨v,hc,hv⟩:=h;exact⟨v,hc,hv.mv m⟩⟩
structure fY (h:af) (O:Nat->Prop) (rb:Nat) (vs vb vl:Value) (st:jb):Prop where
 blk:aB h rb 77 [vs,vb,vl]
 sets:nW 4 bq h 0 46 vs st.1
 rows:cN mL (fun b=>b=rb\/bw vs.ownBlock b\/O b) h 0 61 vb st.2
 apart:∀b,vs.ownBlock=some b->vb.ownBlock≠some b
 ns:vs.ownBlock≠some rb
 nb:vb.ownBlock≠some rb
abbrev sO (rb:Nat) (vs vb:Value):Nat->Prop:=fun b=>b=rb\/bw vs.ownBlock b\/bw vb.ownBlock b
theorem fY.sS {st:jb}(k:fY h O rb vs vb vl st):∀b,vs.ownBlock=some b->b≠rb/\b<h.size:=fun b hb=>by
 have:=aj.lt k.sets hb;exact⟨fun e=>k.ns (by rw[hb,e]),this.2⟩
theorem fY.qO {st:jb}(k:fY h O rb vs vb vl st):∀b,vb.ownBlock=some b->b≠rb/\b<h.size:=fun b hb=>by
 obtain⟨css,_,h2,_⟩:=k.rows;have:=h2.lt hb;exact⟨fun e=>k.nb (by rw[hb,e]),this.2⟩
theorem fY.ext {M:Nat->Prop}{O O':Nat->Prop}{h h':af}{rb:Nat}{vs vb vl:Value}{st:jb}(k:fY h O rb vs vb vl st) (e:Ext M h h') (hM':∀b,sO rb vs vb b->¬M b) (hM:∀b,b<h.size->M b->O b) (hO:∀b,b<h.size->O' b->O b):fY h' O' rb vs vb vl st :=
 ⟨k.blk.ext e (hM' _ (.inl rfl)),aj.ext e k.sets (fun _ hb=>hM' _ (.inr (.inl hb.symm))),k.rows.o9 e (fun _ hb=>hM' _ (.inr (.inr hb.symm))) (fun b hb hm=>.inr (.inr (hM b hb hm))) (fun b hb k=>k.imp id (fun k=>k.imp id (hO b hb))),k.apart,k.ns,k.nb⟩
theorem fY.ah {O':Nat->Prop}{h':af}{st:jb}(k:fY h O rb vs vb vl st) (e:ak h h') (hO:∀b,b<h.size->O' b->O b):fY h' O' rb vs vb vl st:=k.ext e (fun _ _ k=>k) (fun _ _ k=>k.elim) hO
theorem xS {last first:List Bool}{bh:List (List Bool)}{i:Nat}{l:Bool}{b:List Bool}(hl:last[i]? =some l) (hb:bh[i]? =some b):(aQ last first bh)[i]? =some (if l then fU b first else b):=by
 rw[aQ,List.getElem?_zipWith,hl,hb]
theorem nK {vlast vfirst:Value}{st:jb}{last first:List Bool}(hr:fY h O rb vs vb vl st) (hO:∀b,O b->b<h.size) (hlast:aP .bool h (fun b=>sO rb vs vb b) vlast last) (hfirst:aP .bool h (fun b=>sO rb vs vb b) vfirst first)
 (hok:fD n st) (hll:last.length=n) (hfl:first.length=n) (hn:n<=1000000) :
 an Tryd.prog 44 #[.pointer (some ⟨rb,0,none⟩),vlast,vfirst] h (b8 fun _ h'=>fY h' O rb vs vb vl (st.1,aQ last first st.2)/\Ext (bw vb.ownBlock) h h'):=by
 obtain⟨ol,nl,cl,rfl,hsl⟩:=hlast.open;obtain⟨of,nf,cf,rfl,hsf⟩:=hfirst.open;have hnl:=hsl.len;have hnf:=hsf.len;have hrows:=hok.rows;have hfb:(aQ last first st.2).length=n:=by simp[aQ];omega
 have hownS:=hr.sS;have hownB:=hr.qO;have hrb:=hr.blk.lt;refine cV ?_;refine aa ?_;refine fG (σ:=Nat) (fun i=>[(6,.int .i64 (i:Nat))]) (fun i h'=>i<=n/\fY h' O rb vs vb vl (st.1,(aQ last first st.2).take i++st.2.drop i)/\Ext (bw vb.ownBlock) h h') (fun i=>n-i) (0) ⟨Nat.zero_le _,hr,Ext.refl _ _⟩ rfl ?_;rintro i g ⟨hi,hg,eg⟩ ih;have hzg:=eg.size;refine aa ?_;refine bF (fun hlt=>?_) (fun hlt=>?_)
 · have hin:i<n:=by omega
   have hmv:Mv (fun b=>sO rb vs vb b) (fun b=>sO rb vs vb b) h g:=Mv.gq eg (fun b _ k=>⟨fun k2=>k (.inr (.inr k2)),k⟩);have hslg:=hsl.mv hmv;have hsfg:=hsf.mv hmv;obtain⟨bl,oo,x,hol,_,hx,hcx⟩:=hslg.at (show i<nl by omega);obtain⟨row,hrow⟩:∃row,st.2[i]? =some row:=⟨_,List.getElem?_eq_getElem (by omega)⟩
   have hrl:=hok.each row (List.mem_of_getElem? hrow);have hfa:=xS (first:=first) hx hrow
   have hcur:((aQ last first st.2).take i++st.2.drop i)[i]? =some row:=by
    have h1:((aQ last first st.2).take i).length=i:=by rw[List.length_take];omega
    rw[List.getElem?_append_right (by omega),h1,Nat.sub_self,List.getElem?_drop];exact hrow
   have hlen:((aQ last first st.2).take i++st.2.drop i).length=n:=by rw[List.length_append,List.length_take,List.length_drop];omega
   have hnext:∀z,(aQ last first st.2)[i]? =some z->((aQ last first st.2).take i++st.2.drop i).set i z=(aQ last first st.2).take (i+1)++st.2.drop (i+1):=by
    intro z hz;obtain⟨hil,hz⟩:=List.getElem?_eq_some_iff.1 hz;have hd:st.2.drop i=st.2[i]::st.2.drop (i+1):=List.drop_eq_getElem_cons (by omega);rw[List.set_append_right _ _ (by rw[List.length_take];omega),hd];have h1:((aQ last first st.2).take i).length=i:=by rw[List.length_take];omega
    rw[h1,Nat.sub_self,List.set_cons_zero,List.take_succ_eq_append_getElem hil,hz,List.append_assoc];rfl
   iterate 4 refine bT ?_
   refine cU ?_
   iterate 2 refine aY ?_
   refine xp rfl (bK rfl rfl i rfl hol) ?_;refine xp rfl (aE rfl hcx) ?_;refine aa ?_;refine jX (fun hb=>?_) (fun hb=>?_)
   · subst hb;have hz:=hnext _ hfa;rw[if_pos rfl] at hz;obtain⟨gb,c,cs,hvb,hgb1,hgb2,hra,hfz,⟨w,rfl,hw⟩,hput⟩:=hg.rows.put hcur;rw[hlen] at hvb;subst hvb;have hbb:@bw (some gb) gb:=rfl;refine Af 16 15 ?_;refine aS 0 ?_;refine aS 1 ?_;refine aS 2 ?_;refine bL 3 rfl (fun h' e=>aE rfl (e.old (hg.blk.cell (i:=1) rfl))) ?_;refine aS 4 ?_;refine aS 5 ?_;refine aS 6 ?_;refine aS 7 ?_;refine bL 8 rfl (fun h' e=>aE rfl (e.old (hg.blk.cell (i:=1) rfl))) ?_;refine aS 9 ?_;refine bL 10 rfl (fun h' e=>bK rfl rfl i rfl rfl) ?_;refine bL 11 rfl (fun h' e=>aE rfl (e.old (hra 0 _ rfl))) ?_;refine aS 12 ?_;refine eZ 13 rfl (bz rfl (fO hw hsfg.shut (by omega) (by omega))) ?_;rintro w1 g1 ⟨ho1,e1⟩;refine⟨fun _=>e1.mono (fun _ _ k=>k.elim),?_⟩;have hg1:fY g1 O rb vs (.slice (some ⟨gb,0,none⟩) n c) vl (st.1,(aQ last first st.2).take i++st.2.drop i):=hg.ah e1 (fun _ _ k=>k);have hz1:=e1.size;obtain⟨gb',c',cs1,hvb1,_,_,hra1,hfz1,⟨w2,rfl,hw2⟩,hput1⟩:=hg1.rows.put hcur;rw[hlen] at hvb1;cases hvb1;obtain⟨wa,wc,rfl,_⟩:=(show aj g1 g.size 4 1 w1 (fU row first).length ((fU row first).map Value.bool) from ho1).open
     have hnew:=hput1 0 (.slice wa (fU row first).length wc) (fU row first) (by decide) ⟨_,rfl,aT.read (h1:=fun _=>rfl) ho1 (fun b hb k=>by
      rcases k with k|k|k|k
      · have:=hownB b k.symm;omega
      · omega
      · have:=hownS b k.symm;omega
      · have:=hO b k;omega)⟩
     rw[hz] at hnew;refine bL 14 rfl (fun h' e=>bK rfl rfl i rfl rfl) ?_;refine qp 15 rfl (aI H.xe rfl rfl rfl (hra1 0 _ rfl) (hfz1 _)) ?_;rintro _ g2 ⟨rfl,hg2⟩;refine⟨nofun,?_⟩;have x2:Ext (fun b=>b=gb) g1 g2:=by rw[hg2];exact Ext.bY _ _ _ rfl
     have e02:Ext (bw (Value.slice (some ⟨gb,0,none⟩) n c).ownBlock) h g2:=⟨by have:=x2.size;omega,fun b hb k=>by
      rw[x2.block b (by omega) (fun e=>k (by subst e;rfl)),e1.block b (by omega) (fun k=>k)];exact eg.block b hb k⟩
     have hgs:vs.ownBlock≠some gb:=fun e=>hr.apart gb e rfl
     have hg3:fY g2 O rb vs (.slice (some ⟨gb,0,none⟩) n c) vl (st.1,(aQ last first st.2).take (i+1)++st.2.drop (i+1)) :=
      ⟨hg1.blk.ext x2 (by show ¬_=_;have:=(hownB gb rfl).1;omega),aj.ext x2 hg1.sets (fun b hb e=>hgs (by subst e;exact hb)),by rw[hg2];exact hnew,hr.apart,hr.ns,hr.nb⟩
     refine lg ?_;refine aa ?_;exact ih (i+1) ⟨hin,hg3,e02⟩
   · subst hb;have hz:=hnext _ hfa;rw[if_neg (by decide)] at hz
     have hset:((aQ last first st.2).take i++st.2.drop i).set i row=(aQ last first st.2).take i++st.2.drop i:=by
      obtain⟨hi',hrow'⟩:=List.getElem?_eq_some_iff.1 hcur;rw[<-hrow',List.set_getElem_self]
     rw[hset] at hz;rw[hz] at hg;refine aa ?_;exact ih (i+1) ⟨hin,hg,eg⟩
 · obtain rfl:i=n:=by omega
   rw[List.take_of_length_le (by omega),List.drop_of_length_le (by omega),List.append_nil] at hg;refine aa ?_;refine DK ?_;exact⟨_,rfl,hg,eg⟩
def xx (O L:Nat->Prop):Nat->Prop:=fun b=>O b\/L b
structure lF (O:Nat->Prop) (rb:Nat) (vs vb vl:Value) (h:af) (L:Nat->Prop) (hi:Nat) (g:af) (vs':Value) (st':jb):Prop where
 at_:fY g (xx O L) rb vs' vb vl st'
 ext:Ext (sO rb vs vb) h g
 own:∀b,vs'.ownBlock=some b->vs.ownBlock=some b\/hi<=b
 size:hi<=g.size
 base:h.size<=hi
 lt:∀b,sO rb vs vb b->b<h.size
 o:∀b,O b->b<h.size
 l:∀b,L b->h.size<=b/\b<hi
abbrev j9 (O:Nat->Prop) (rb:Nat) (vs' vb:Value) (L:Nat->Prop):Nat->Prop:=fun b=>sO rb vs' vb b\/xx O L b
section
variable {O L:Nat->Prop}{rb:Nat}{vs vb vl vs' vs2:Value}{h g g2:af}{hi:Nat}{st' st2:jb}
theorem lF.loc (k:lF O rb vs vb vl h L hi g vs' st'):∀b,L b->¬sO rb vs' vb b:=by
 intro b hb;obtain⟨h1,h2⟩:=k.l b hb;rintro(k1|k1|k1)
 · have:=k.lt rb (.inl rfl);omega
 · rcases k.own b k1.symm with k2|k2
   · have:=k.lt b (.inr (.inl k2.symm));omega
   · omega
 · have:=k.lt b (.inr (.inr k1));omega
theorem lF.BO (k:lF O rb vs vb vl h L hi g vs' st'):∀b,j9 O rb vs' vb L b->b<g.size:=by
 have hs:=k.size;have hb:=k.base;rintro b ((k1|k1|k1)|k1|k1)
 · have:=k.lt rb (.inl rfl);omega
 · exact(k.at_.sS b k1.symm).2
 · exact(k.at_.qO b k1.symm).2
 · have:=k.o b k1;omega
 · have:=k.l b k1;omega
theorem lF.old (k:lF O rb vs vb vl h L hi g vs' st'):Mv (sO rb vs vb) (sO rb vs' vb) h g :=
 ⟨k.ext.size,fun b hb hn=>⟨k.ext.block b hb hn,by
  have hbs:=k.base;rintro(k1|k1|k1)
  · exact hn (.inl k1)
  · rcases k.own b k1.symm with k2|k2
    · exact hn (.inr (.inl k2.symm))
    · omega
  · exact hn (.inr (.inr k1))⟩⟩
theorem lF.ah (k:lF O rb vs vb vl h L hi g vs' st') (e:ak g g2):lF O rb vs vb vl h L hi g2 vs' st' :=
 ⟨k.at_.ah e (fun _ _ k=>k),⟨Nat.le_trans k.ext.size e.size,fun b hb hn=>(e.block b (Nat.lt_of_lt_of_le hb k.ext.size) (fun k=>k)).trans (k.ext.block b hb hn)⟩,k.own,Nat.le_trans k.size e.size,k.base,k.lt,k.o,k.l⟩
theorem lF.put (k:lF O rb vs vb vl h L hi g vs' st'){x:Nat}(e:Ext (fun b=>b=x) g g2) (hx:L x):lF O rb vs vb vl h L hi g2 vs' st' :=
 ⟨k.at_.ext e (fun b hb hx'=>by subst hx';exact k.loc b hx hb) (fun b _ hx'=>by subst hx';exact .inr hx) (fun _ _ k=>k),
  ⟨Nat.le_trans k.ext.size e.size,fun b hb hn=>(e.block b (Nat.lt_of_lt_of_le hb k.ext.size) (by have:=k.l x hx;omega)).trans (k.ext.block b hb hn)⟩,k.own,Nat.le_trans k.size e.size,k.base,k.lt,k.o,k.l⟩
theorem lF.eV (_:lF O rb vs vb vl h L hi g vs' st'){x:Nat}(e:Ext (fun b=>b=x) g g2) (hx:L x):Mv (j9 O rb vs' vb L) (j9 O rb vs' vb L) g g2 :=
 Mv.gq e fun b _ hq=>⟨fun hx'=>hq (.inr (.inr (by subst hx';exact hx))),hq⟩
theorem lF.sub (k:lF O rb vs vb vl h L hi g vs' st') (a:fY g2 (xx O L) rb vs2 vb vl st2) (e:Ext (sO rb vs' vb) g g2) (ho:∀b,vs2.ownBlock=some b->vs'.ownBlock=some b\/g.size<=b):lF O rb vs vb vl h L hi g2 vs2 st2 :=
 ⟨a,⟨Nat.le_trans k.ext.size e.size,fun b hb hn=>(e.block b (Nat.lt_of_lt_of_le hb k.ext.size) (k.old.block b hb hn).2).trans (k.ext.block b hb hn)⟩,
  fun b hb=>by
   have hs:=k.size
   rcases ho b hb with k1|k1
   · exact k.own b k1
   · exact .inr (by omega),Nat.le_trans k.size e.size,k.base,k.lt,k.o,k.l⟩
theorem lF.Av (_:lF O rb vs vb vl h L hi g vs' st') (e:Ext (sO rb vs' vb) g g2) (ho:∀b,vs2.ownBlock=some b->vs'.ownBlock=some b\/g.size<=b):Mv (j9 O rb vs' vb L) (j9 O rb vs2 vb L) g g2 :=
 ⟨e.size,fun b hb hn=>⟨e.block b hb (fun k=>hn (.inl k)),by
  rintro((k1|k1|k1)|k1)
  · exact hn (.inl (.inl k1))
  · rcases ho b k1.symm with k2|k2
    · exact hn (.inl (.inr (.inl k2.symm)))
    · omega
  · exact hn (.inl (.inr (.inr k1)))
  · exact hn (.inr k1)⟩⟩
theorem lF.FV (k:lF O rb vs vb vl h L hi g vs' st') (a:fY g2 (xx O L) rb vs' vb vl st2) (e:Ext (bw vb.ownBlock) g g2):lF O rb vs vb vl h L hi g2 vs' st2 :=
 k.sub a (e.mono fun _ _ k=>.inr (.inr k)) (fun _ k=>.inl k)
theorem lF.zH (k:lF O rb vs vb vl h L hi g vs' st') (e:Ext (bw vb.ownBlock) g g2):Mv (j9 O rb vs' vb L) (j9 O rb vs' vb L) g g2:=k.Av (e.mono fun _ _ k=>.inr (.inr k)) (fun _ k=>.inl k)
structure p8 (b4 b6:Nat) (nd:List Value) (g:af):Prop where
 k4:aB g b4 49 nd
 k6:aB g b6 79 [.bool false,.slice none 0 0,.slice none 0 0]
theorem p8.ah {g g2:af}{b4 b6:Nat}{nd:List Value}(k:p8 b4 b6 nd g) (e:ak g g2):p8 b4 b6 nd g2:=⟨k.k4.ah e,k.k6.ah e⟩
theorem p8.ext {M:Nat->Prop}{g g2:af}{b4 b6:Nat}{nd:List Value}(k:p8 b4 b6 nd g) (e:Ext M g g2) (h4:¬M b4) (h6:¬M b6):p8 b4 b6 nd g2:=⟨k.k4.ext e h4,k.k6.ext e h6⟩
def wX (O:Nat->Prop) (rb:Nat) (h:af) (vs vb vl:Value) (out:cL×jb) (r:Value) (h':af):Prop :=
 ∃vs' f l,r= .agg #[.bool out.1.null,f,l]/\fY h' O rb vs' vb vl out.2/\aP .bool h' (fun b=>sO rb vs' vb b\/O b) f out.1.first/\aP .bool h' (fun b=>sO rb vs' vb b\/O b) l out.1.last/\Ext (sO rb vs vb) h h'/\(∀b,vs'.ownBlock=some b->vs.ownBlock=some b\/h.size<=b)
theorem lF.fin (k:lF O rb vs vb vl h L hi g vs' st'){p:cL}{f l:Value}(hf:aP .bool g (j9 O rb vs' vb L) f p.first) (hl:aP .bool g (j9 O rb vs' vb L) l p.last):wX O rb h vs vb vl (p,st') (.agg #[.bool p.null,f,l]) g :=
 ⟨vs',f,l,rfl,k.at_.ah (Ext.refl _ _) (fun _ _ k=>.inl k),cK hf (fun _ k=>k.imp id .inl),cK hl (fun _ k=>k.imp id .inl),k.ext,fun b hb=>(k.own b hb).imp id (fun k1=>Nat.le_trans k.base k1)⟩
end
def yx (m:Nat):Prop:=∀{x:Nd}{h:af}{O:Nat->Prop}{rb:Nat}{vs vb vl w:Value}{st:jb}{n:Nat},fV x<=m->fY h O rb vs vb vl st->(∀b,O b->b<h.size)->aA h (sO rb vs vb) (aX x.kind x.set w) x->ig x=true->fD n st->st.1.length+cnt x<=n->n<=1000000 ->
 an Tryd.prog 27 #[.pointer (some ⟨rb,0,none⟩),.agg (aX x.kind x.set w).toArray,.int .i64 (n:Nat)] h (b8 (wX O rb h vs vb vl (bJ n x st)))
theorem El {k j:Nat}(h:¬((k:Nat):Int)=(j:Nat)):¬k=j:=fun e=>h (by rw[e])
theorem zB {m:Nat}(ih:yx m):yx (m+1):=by
 intro x h O rb vs vb vl w st n hsz hr hO hx hw hok hroom hn;obtain⟨k,s,kids⟩:=x;simp only[fV] at hsz;simp only[cnt] at hroom;have hrb:=hr.blk.lt
 have hltM:∀b,sO rb vs vb b->b<h.size:=by
  rintro b (k1|k1|k1)
  · omega
  · exact(hr.sS b k1.symm).2
  · exact(hr.qO b k1.symm).2
 obtain⟨w',hw',hkids⟩:=hx.open;have hww:w=w':=by simpa [aX] using hw'
 subst hww
 show an _ _ #[_,.agg (aX k s w).toArray,_] h _
 replace hkids:aP jg h (sO rb vs vb) w kids:=hkids;obtain⟨oa,kn,kc,rfl,hsl⟩:=hkids.open;have hkn:kids.length=kn:=hsl.len;have hkm:=hsl.le;have hkc:=hsl.cap;have hkc2:=hkc;simp only[maxLen] at hkc2;have hwl:ic kids=true:=by simp only[ig,Bool.and_eq_true] at hw;exact hw.2
 have hklen:=qb kids;have hokAll:=dK n (.mk k s kids) st hok;refine cV ?_;refine aa ?_;refine xo rfl (wY) ?_;rintro _ h1 ⟨rfl,q4,e1,z1⟩;refine xo rfl (jf) ?_;rintro _ h2 ⟨rfl,q6,e2,z2⟩;refine aa ?_;refine xo rfl (aL.cY underlying61 H.BP H.BS rfl rfl rfl (by omega) (by decide)) ?_;rintro _ h3 ⟨rfl,q7,e3⟩;have q4:aB h1 h.size 49 (aX k s (.slice oa kn kc)):=q4;have q6:aB h2 h1.size 79 [.bool false,.slice none 0 0,.slice none 0 0]:=q6;have z3:=e3.size;have q4:=(q4.ah e2).ah e3;have q6:=q6.ah e3;have e03:ak h h3:=(e1.trans e2).trans e3;have q7:aT Value.bool h3 h2.size 4 (.slice (some ⟨h2.size,0,none⟩) n n) (bO n):=by unfold aT bO;simpa using q7
 have hs4:Array.size h+1=Array.size h1:=by omega
 have hs6:Array.size h1+1=Array.size h2:=by omega
 have hs7:Array.size h2<Array.size h3:=(aj.lt q7 rfl).2
 -- from h3 on
 generalize hLe:(fun b=>b=Array.size h\/b=Array.size h1:Nat->Prop)=L2;have hLn:L2 h.size:=by rw[<-hLe];exact .inl rfl
 have hLp:L2 h1.size:=by rw[<-hLe];exact .inr rfl
 have hL2:∀b,L2 b->h.size<=b/\b<h3.size:=by rw[<-hLe];rintro b (k|k)<;>omega
 have R3:lF O rb vs vb vl h L2 h3.size h3 vs st:=⟨hr.ext (O':=xx O L2) e03 (fun _ _ k=>k) (fun _ _ k=>k.elim) (fun b hb k=>k.elim id (fun k=>by have:=hL2 b k;omega)),e03.mono (fun _ _ k=>k.elim),fun b hb=>.inl hb,Nat.le_refl _,e03.size,hltM,hO,hL2⟩
 have hnob:cM n ⟨true,bO n,bO n⟩:=gO n true;refine aa ?_;refine xp rfl (aE rfl (q4.cell (i:=0) rfl)) ?_;refine aa ?_;refine bF (fun h1k=>?_) (fun h1k=>?_)
 · obtain rfl:k=1:=by omega
   have hglu:bJ n (.mk 1 s kids) st=(⟨false,(bO n).set st.1.length true,(bO n).set st.1.length true⟩,(st.1++[s],st.2)):=by rw[bJ];simp
   rw[hglu];simp only[if_true] at hroom;have hownS:=R3.at_.sS;have hownB:=hr.qO;have hrM:¬(bw vs.ownBlock rb\/Array.size h3<=rb):=by rintro(k|k);(have:=hownS rb k.symm;omega);omega
   have hnM:¬(bw vs.ownBlock h.size\/Array.size h3<=h.size):=by rintro(k|k);(have:=(hr.sS _ k.symm);omega);omega
   have hsets:aj h3 0 46 4 vs st.1.length (st.1.flatMap bq):=R3.at_.sets;have hset1:∀u∈bq s,u.oneCell'=true:=by intro u hu;simp[bq] at hu;rcases hu with rfl|rfl|rfl|rfl<;>rfl
   have hset4:Lw.rowAt h3 h.size 1 (bq s):=q4.part 1 (by intro j v hv;match j with| 0=>exact hv| 1=>exact hv| 2=>exact hv| 3=>exact hv|j+4=>simp[bq] at hv);refine aa ?_;refine vg 12 (fun b=>bw vs.ownBlock b\/Array.size h3<=b) (fun i=>Nat.blt i 11) ?_;refine aS 0 ?_;refine aS 1 ?_;refine aS 2 ?_;refine aS 3 ?_;refine bL 4 rfl (fun h' e=>aE rfl (e.cell hrM (R3.at_.blk.cell (i:=0) rfl))) ?_;refine aS 5 ?_;refine bL 6 rfl (fun h' e=>gj rfl (e.rowAt hnM hset4)) ?_;refine eZ 7 rfl (y3) ?_;rintro _ _ ⟨rfl,rfl⟩;refine⟨fun _=>by first|exact Ext.push _ _ _|assumption,?_⟩;refine eZ 8 rfl (aL.eF underlying75 H.Ep rfl rfl (hsets) rfl rfl (hset1) (by omega) (by decide) (by omega)) ?_;rintro v2 h5 ⟨ho5,hx5,hx5',hv5⟩;refine⟨fun _=>hx5'.mono (fun _ _ k=>.inl k),?_⟩;have z5:=hx5.size;obtain⟨va2,c2,rfl,_⟩:=ho5.open;have hrb5:rb<h5.size:=by omega
   refine BL 9 ?_;refine aS 10 ?_;refine qp 11 rfl (n8 rfl rfl ((R3.at_.blk.ext hx5 (fun k=>by have:=hownS rb k.symm;omega)))) ?_;rintro _ h6 ⟨rfl,hk6,hx6,hz6⟩;refine⟨nofun,?_⟩;have hk6:aB h6 rb 77 [.slice va2 (st.1.length+1) c2,vb,vl]:=hk6
   have hv2:∀b,(Value.slice va2 (st.1.length+1) c2).ownBlock=some b->b≠rb:=fun b hb=>by
    rcases hv5 b hb with k|k
    · exact(hownS b k).1
    · omega
   have a6:fY h6 (xx O L2) rb (.slice va2 (st.1.length+1) c2) vb vl (st.1++[s],st.2):=⟨hk6,nW.of (aj.ext hx6 ho5 (fun b hb (e:b=rb)=>by have:=hv2 b hb;omega)) rfl rfl,
    (R3.at_.rows.o9 hx5 (fun b hb k=>hr.apart b k.symm hb) (fun b _ k=>.inr (.inl k)) (O':=fun b=>b=rb\/bw (Value.slice va2 (st.1.length+1) c2).ownBlock b\/xx O L2 b) (fun b hb k=>by
     rcases k with k|k|k
     · exact .inl k
     · rcases hv5 b k.symm with k2|k2
       · exact .inr (.inl k2.symm)
       · omega
     · exact .inr (.inr k))).o9 hx6 (fun b hb (e:b=rb)=>by have:=hownB b hb;omega) (fun b _ k=>.inl k) (fun b _ k=>k),fun b hb=>by
     rcases hv5 b hb with k|k
     · exact hr.apart b k
     · intro e;have:=hownB b e;omega,fun hb=>(hv2 rb hb) rfl,hr.nb⟩
   have e36:Ext (sO rb vs vb) h3 h6:=⟨by omega,fun b hb hn=>by rw[hx6.block b (by omega) (fun k=>hn (.inl k)),hx5.block b hb (fun k=>hn (.inr (.inl k)))]⟩
   have R6:=R3.sub a6 e36 hv5;have q4:=q4.ext e36 (R3.loc _ hLn);have q6:=q6.ext e36 (R3.loc _ hLp);refine lg ?_;refine aa ?_;refine xo rfl (aL.cY underlying61 H.BP H.BS rfl rfl rfl (by omega) (by decide)) ?_;rintro _ h7 ⟨rfl,q8,e7⟩;have q8:aT Value.bool h7 h6.size 4 (.slice (some ⟨h6.size,0,none⟩) n n) (bO n):=by unfold aT bO;simpa using q8
   have R7:=R6.ah e7;obtain⟨g',c',hv',_,_,hcell,hfz,hset⟩:=q8.at (i:=st.1.length) (x:=false) (by unfold bO;rw[List.getElem?_replicate,if_pos (by omega)]);rw[bZ] at hv';cases hv';have hset:=hset true;refine aa ?_;refine xp rfl (aE rfl (R7.at_.blk.cell (i:=0) rfl)) ?_
   iterate 2 refine aY ?_
   refine xp rfl (bK rfl rfl st.1.length (by omega) rfl) ?_;refine bN rfl (aI H.tg rfl rfl rfl hcell hfz) ?_;rintro _ h8 ⟨rfl,hg8⟩;rw[<-hg8] at hset;have e68:ak h6 h8:=ak.only e7 (by rw[hg8];exact Ext.bY _ _ _ rfl:Ext (fun b=>b=h6.size) h7 h8) (Nat.le_refl _);have R8:=R6.ah e68;have hone:aP .bool h8 (j9 O rb (.slice va2 (st.1.length+1) c2) vb L2) (.slice (some ⟨h6.size,0,none⟩) n n) ((bO n).set st.1.length true):=aT.read (h1:=fun _=>rfl) hset (fun b hb k=>by have:=R6.BO b k;omega);refine aa ?_;refine xp rfl (aq (H.cS _ _ _ _ _ _ _) rfl) ?_;refine bN rfl (dx rfl rfl ((q6.ah e68))) ?_;rintro _ h9 ⟨rfl,hk9,hx9,hz9⟩;refine aa ?_;have hk9:aB h9 h1.size 79 [.bool false,.slice (some ⟨h6.size,0,none⟩) n n,.slice (some ⟨h6.size,0,none⟩) n n]:=hk9;refine jK (jI rfl hk9.row jJ) ?_;have R9:=R8.put hx9 hLp;have hone9:=hone.mv (R8.eV hx9 hLp);exact⟨_,rfl,R9.fin hone9 hone9⟩
 · have h1k':¬k=1:=El h1k;refine aa ?_;refine bF (fun h2k=>?_) (fun h2k=>?_)
   · obtain rfl:k=2:=by omega
     have hglu:bJ n (.mk 2 s kids) st=bB n kids ⟨true,bO n,bO n⟩ st:=by rw[bJ];simp
     rw[hglu];generalize htgt:bB n kids ⟨true,bO n,bO n⟩ st=tgt;rw[if_neg (by decide),Nat.zero_add] at hroom;refine aa ?_;refine xp rfl (aq (H.cS _ _ _ _ _ _ _) rfl) ?_;refine xo rfl (jf) ?_;rintro _ h4 ⟨rfl,k9,e4,z4⟩;refine bN rfl (dx rfl rfl k9) ?_;rintro _ h5 ⟨rfl,k9,x5,z5⟩;have k9:aB h5 h3.size 79 [.bool true,.slice (some ⟨h2.size,0,none⟩) n n,.slice (some ⟨h2.size,0,none⟩) n n]:=k9;have e35:ak h3 h5:=ak.only e4 x5 (Nat.le_refl _);have e05:=e03.trans e35;generalize hL5e:(fun b=>L2 b\/b=Array.size h3:Nat->Prop)=L5;have hL5:∀b,L5 b->h.size<=b/\b<h5.size:=by rw[<-hL5e];rintro b (k|k);(have:=hL2 b k;omega);omega
     have hL4':L5 h.size:=by rw[<-hL5e];exact .inl hLn
     have hL6':L5 h1.size:=by rw[<-hL5e];exact .inl hLp
     have hL9':L5 h3.size:=by rw[<-hL5e];exact .inr rfl
     have R5:lF O rb vs vb vl h L5 h5.size h5 vs st:=⟨hr.ext (O':=xx O L5) e05 (fun _ _ k=>k) (fun _ _ k=>k.elim) (fun b hb k=>k.elim id (fun k=>by have:=hL5 b k;omega)),e05.mono (fun _ _ k=>k.elim),fun b hb=>.inl hb,Nat.le_refl _,by omega,hltM,hO,hL5⟩
     have hnb3:aP .bool h3 (j9 O rb vs vb L2) (.slice (some ⟨h2.size,0,none⟩) n n) (bO n):=aT.read (h1:=fun _=>rfl) q7 (fun b hb k=>by
      rcases k with k|k|k
      · have:=hltM b k;omega
      · have:=hO b k;omega
      · rw[<-hLe] at k;rcases k with k|k<;>omega)
     have hnb5:aP .bool h5 (j9 O rb vs vb L5) (.slice (some ⟨h2.size,0,none⟩) n n) (bO n):=hnb3.mv ⟨e35.size,fun b hb hn=>⟨e35.block b hb (fun k=>k),by
      rintro(k|k|k)
      · exact hn (.inl k)
      · exact hn (.inr (.inl k))
      · rw[<-hL5e] at k
        rcases k with k|k
        · exact hn (.inr (.inr k))
        · omega⟩⟩
     have LB5:p8 h.size h1.size (aX 2 s (.slice oa kn kc)) h5:=⟨q4.ah e35,q6.ah e35⟩
     refine aa ?_;refine C3 (σ:=Nat) (fun i=>[(0,.pointer (some ⟨rb,0,none⟩)),(2,.int .i64 (n:Nat)),(4,.pointer (some ⟨h.size,0,none⟩)),(6,.pointer (some ⟨h1.size,0,none⟩)),(9,.pointer (some ⟨h3.size,0,none⟩)),(10,.int .i64 (i:Nat))]) (fun i h'=>i<=kn/\∃vs' p fa fn fc la ln lc stc,lF O rb vs vb vl h L5 h5.size h' vs' stc/\p8 h.size h1.size (aX 2 s (.slice oa kn kc)) h'/\aB h' h3.size 79 [.bool p.null,.slice fa fn fc,.slice la ln lc]/\aP .bool h' (j9 O rb vs' vb L5) (.slice fa fn fc) p.first/\aP .bool h' (j9 O rb vs' vb L5) (.slice la ln lc) p.last/\cM n p/\fD n stc/\stc.1.length+cE (kids.drop i)<=n/\bB n (kids.drop i) p stc=tgt) (fun i=>kn-i) (0) ⟨Nat.zero_le _,vs,⟨true,bO n,bO n⟩,_,_,_,_,_,_,st,R5,LB5,k9,hnb5,hnb5,gO n true,hok,hroom,htgt⟩ ?_;rintro i g ⟨hi,vs',p,fa,fn,fc,la,ln,lc,stc,R,LB,k9,hf,hl,hpok,hcok,hcroom,hcon⟩ ih2;have hvb:=hr.qO;have hL5s:Array.size h3<Array.size h5:=(hL5 _ hL9').2;refine aa ?_;refine xp rfl (aE rfl (LB.k4.cell (i:=5) rfl)) ?_;refine aa ?_;refine bF (fun hlt=>?_) (fun hlt=>?_)
     · have hik:i<kids.length:=by omega
       obtain⟨x,hx⟩:∃x,kids[i]? =some x:=⟨_,List.getElem?_eq_getElem hik⟩
       have hdr:kids.drop i=x::kids.drop (i+1):=by
        obtain⟨hi',rfl⟩:=List.getElem?_eq_some_iff.1 hx;exact List.drop_eq_getElem_cons hi'
       rw[hdr,bB] at hcon;rw[hdr] at hcroom;simp only[cE] at hcroom;have hszx:=qa hx;have hwx:=mZ hwl hx;have hokx:=dK n x stc hcok;have hroomx:=hokx.2.2.2 hwx;obtain⟨b,o,cs,ha,hob,hrow,hnd⟩:=(hsl.mv R.old).get i x hx;obtain⟨w2,rfl,-⟩:=aA.open hnd;have hgz:=R.size;refine aa ?_;refine xp rfl (aE rfl (LB.k4.cell (i:=5) rfl)) ?_;refine aY ?_;refine xp rfl (bK rfl rfl i rfl ha) ?_;refine xp rfl (gj rfl hrow) ?_;refine aa ?_;refine xo rfl (bz rfl (ih (x:=x) (O:=xx O L5) (by omega) R.at_ (fun b hb=>R.BO b (.inr hb)) hnd hwx hcok (by omega) hn)) ?_;rintro _ g1 ⟨vs1,f1,l1,rfl,a1,hf1,hl1,e1x,ho1⟩;refine xo rfl (jf) ?_;rintro _ g2 ⟨rfl,k11,e2x,z2x⟩;generalize bJ n x stc=out at *;have hf1':∃oa n c,f1= .slice oa n c:=by obtain⟨oa,n,c,rfl,_⟩:=hf1;exact⟨_,_,_,rfl⟩
       obtain⟨f1a,f1n,f1c,rfl⟩:=hf1';have hl1':∃oa n c,l1= .slice oa n c:=by obtain⟨oa,n,c,rfl,_⟩:=hl1;exact⟨_,_,_,rfl⟩
       obtain⟨l1a,l1n,l1c,rfl⟩:=hl1';have R1:=R.sub a1 e1x ho1;have z1x:=e1x.size;have LB1:=LB.ext e1x (R.loc _ hL4') (R.loc _ hL6');have k9:=k9.ext e1x (R.loc _ hL9');have hf:=hf.mv (R.Av e1x ho1);have hl:=hl.mv (R.Av e1x ho1);refine bN rfl (dx rfl rfl k11) ?_;rintro _ g3 ⟨rfl,k11,x3,z3x⟩;have k11:aB g3 g1.size 79 [.bool out.1.null,.slice f1a f1n f1c,.slice l1a l1n l1c]:=k11;have e13:ak g1 g3:=ak.only e2x x3 (Nat.le_refl _);have R3':=R1.ah e13;have LB3:=LB1.ah e13;have k9:=k9.ah e13;have hf:=hf.mv (Mv.ah e13);have hl:=hl.mv (Mv.ah e13);have hf1:aP .bool g3 (j9 O rb vs1 vb L5) _ out.1.first:=aP.mv hf1 (Mv.ah e13)
       have hl1:aP .bool g3 (j9 O rb vs1 vb L5) _ out.1.last:=aP.mv hl1 (Mv.ah e13);refine aa ?_;refine xp rfl (aE rfl (k9.cell (i:=2) rfl)) ?_;refine aa ?_;refine xp rfl (aE rfl (k11.cell (i:=1) rfl)) ?_;refine xo rfl (bz rfl (nK R3'.at_ (fun b hb=>R3'.BO b (.inr hb)) (cK hl (fun _ k=>.inl k)) (cK hf1 (fun _ k=>.inl k)) hokx.2.1 hpok.last hokx.1.first hn)) ?_;rintro _ g4 ⟨a4,e4x⟩;have R4:=R3'.FV a4 e4x;have z4x:=e4x.size;have n11:¬bw vb.ownBlock g1.size:=fun k=>by have:=hvb _ k.symm;omega
       have k11:=k11.ext e4x n11;have LB4:=LB3.ext e4x (fun k=>R3'.loc _ hL4' (.inr (.inr k))) (fun k=>R3'.loc _ hL6' (.inr (.inr k)));have k9:=k9.ext e4x (fun k=>R3'.loc _ hL9' (.inr (.inr k)));have hf:=hf.mv (R3'.zH e4x);have hl:=hl.mv (R3'.zH e4x);have hf1:=hf1.mv (R3'.zH e4x);have hl1:=hl1.mv (R3'.zH e4x);have hcpok:=fA hpok hokx.1;have hcfok:=iW (S:=out.2.1) hpok.last hokx.1.first hokx.2.1
       have hg1n:¬g1.size=h3.size:=by omega
       refine aa ?_;refine xp rfl (aE rfl (k9.cell (i:=0) rfl)) ?_;refine aa ?_
       have st1:∀(f2a:Option Addr) (f2n f2c:Nat) (h':af) (ρ':Env),Sub [(0,.pointer (some ⟨rb,0,none⟩)),(2,.int .i64 (n:Nat)),(4,.pointer (some ⟨h.size,0,none⟩)),(6,.pointer (some ⟨h1.size,0,none⟩)),(9,.pointer (some ⟨h3.size,0,none⟩)),(10,.int .i64 (i:Nat)),(11,.pointer (some ⟨g1.size,0,none⟩))] ρ'->lF O rb vs vb vl h L5 h5.size h' vs1 (out.2.1,aQ p.last out.1.first out.2.2)->p8 h.size h1.size (aX 2 s (.slice oa kn kc)) h'->aB h' h3.size 79 [.bool p.null,.slice f2a f2n f2c,.slice la ln lc]->aB h' g1.size 79 [.bool out.1.null,.slice f1a f1n f1c,.slice l1a l1n l1c]->aP .bool h' (j9 O rb vs1 vb L5) (.slice f2a f2n f2c) (bA p out.1).first->aP .bool h' (j9 O rb vs1 vb L5) (.slice la ln lc) p.last->aP .bool h' (j9 O rb vs1 vb L5) (.slice l1a l1n l1c) out.1.last->G Tryd.prog 27 f27 [.code [1,1,1,0,0,1,0,0,1,0,1,0,1,1,1,0,1,0,1,1],.blk 2,.code [1,1,0,0,1,0,1,0,1,1,1,0,1,0,1,1],.loop [0,0,1,0,1,0,1,1,1,0,1,0,1,1],.blk 1,.code [1,1,0,1,1,1,0,1,0,1,1],.blk 0,.code [1,1,1]] ρ' h' (b8 (wX O rb h vs vb vl tgt)):=by
        rintro f2a f2n f2c g5 ρ' hsub R6 LB6 k9 k11 hf2 hl hl1;refine G.sub (ρ':=[(0,.pointer (some ⟨rb,0,none⟩)),(2,.int .i64 (n:Nat)),(4,.pointer (some ⟨h.size,0,none⟩)),(6,.pointer (some ⟨h1.size,0,none⟩)),(9,.pointer (some ⟨h3.size,0,none⟩)),(10,.int .i64 (i:Nat)),(11,.pointer (some ⟨g1.size,0,none⟩))]) hsub ?_;refine aa ?_;refine xp rfl (aE rfl (k11.cell (i:=0) rfl)) ?_;refine aa ?_
        have st2:∀(f2a:Option Addr) (f2n f2c:Nat) (l2a:Option Addr) (l2n l2c:Nat) (h':af) (ρ':Env),Sub [(0,.pointer (some ⟨rb,0,none⟩)),(2,.int .i64 (n:Nat)),(4,.pointer (some ⟨h.size,0,none⟩)),(6,.pointer (some ⟨h1.size,0,none⟩)),(9,.pointer (some ⟨h3.size,0,none⟩)),(10,.int .i64 (i:Nat)),(11,.pointer (some ⟨g1.size,0,none⟩))] ρ'->lF O rb vs vb vl h L5 h5.size h' vs1 (out.2.1,aQ p.last out.1.first out.2.2)->p8 h.size h1.size (aX 2 s (.slice oa kn kc)) h'->aB h' h3.size 79 [.bool p.null,.slice f2a f2n f2c,.slice l2a l2n l2c]->aB h' g1.size 79 [.bool out.1.null,.slice f1a f1n f1c,.slice l1a l1n l1c]->aP .bool h' (j9 O rb vs1 vb L5) (.slice f2a f2n f2c) (bA p out.1).first->aP .bool h' (j9 O rb vs1 vb L5) (.slice l2a l2n l2c) (bA p out.1).last->G Tryd.prog 27 f27 [.code [1,1,1,1,0,0,1,0,0,1,0,1,0,1,1,1,0,1,0,1,1],.blk 2,.code [1,1,0,0,1,0,1,0,1,1,1,0,1,0,1,1],.loop [0,0,1,0,1,0,1,1,1,0,1,0,1,1],.blk 1,.code [1,1,0,1,1,1,0,1,0,1,1],.blk 0,.code [1,1,1]] ρ' h' (b8 (wX O rb h vs vb vl tgt)):=by
         rintro f2a f2n f2c l2a l2n l2c g5 ρ' hsub R6 LB6 k9 k11 hf2 hl2;refine G.sub (ρ':=[(0,.pointer (some ⟨rb,0,none⟩)),(2,.int .i64 (n:Nat)),(4,.pointer (some ⟨h.size,0,none⟩)),(6,.pointer (some ⟨h1.size,0,none⟩)),(9,.pointer (some ⟨h3.size,0,none⟩)),(10,.int .i64 (i:Nat)),(11,.pointer (some ⟨g1.size,0,none⟩))]) hsub ?_;refine aa ?_;refine xp rfl (aE rfl (k9.cell (i:=0) rfl)) ?_;refine aa ?_;refine ie 94 (fun hg=>?_) (fun hg=>?_)
         · refine aa ?_;refine xp rfl (aE rfl (k11.cell (i:=0) rfl)) ?_;refine aa ?_;refine bN rfl (n8 rfl rfl k9) ?_;rintro _ g7 ⟨rfl,k9',x7,z7⟩;refine aa ?_;exact ih2 (i+1) ⟨by omega,vs1,bA p out.1,_,_,_,_,_,_,_,R6.put x7 hL9',LB6.ext x7 (by show ¬_=_;omega) (by show ¬_=_;omega),by simp only[bA,hg,Bool.true_and];exact k9',hf2.mv (R6.eV x7 hL9'),hl2.mv (R6.eV x7 hL9'),hcpok,hcfok,by show out.2.1.length+_<=n;omega,hcon⟩
         · refine aa ?_;refine bN rfl (n8 rfl rfl k9) ?_;rintro _ g7 ⟨rfl,k9',x7,z7⟩;refine aa ?_;exact ih2 (i+1) ⟨by omega,vs1,bA p out.1,_,_,_,_,_,_,_,R6.put x7 hL9',LB6.ext x7 (by show ¬_=_;omega) (by show ¬_=_;omega),by simp only[bA,hg,Bool.false_and];exact k9',hf2.mv (R6.eV x7 hL9'),hl2.mv (R6.eV x7 hL9'),hcpok,hcfok,by show out.2.1.length+_<=n;omega,hcon⟩ (by omega)
        refine jX (fun hg=>?_) (fun hg=>?_)
        · refine aa ?_;refine xp rfl (aE rfl (k9.cell (i:=2) rfl)) ?_;refine aa ?_;refine xp rfl (aE rfl (k11.cell (i:=2) rfl)) ?_;refine xo rfl (bz rfl (fO hl hl1 (by rw[hpok.last,hokx.1.last];exact Nat.le_refl _) (by rw[hpok.last];exact hn))) ?_;rintro w5 g6 ⟨ho6,e6x⟩;have R7:=R6.ah e6x;obtain⟨wa,wc,rfl,_⟩:=(show aj g6 g5.size 4 1 w5 (fU p.last out.1.last).length ((fU p.last out.1.last).map Value.bool) from ho6).open;have hl2:aP .bool g6 (j9 O rb vs1 vb L5) _ (fU p.last out.1.last):=aT.read (h1:=fun _=>rfl) ho6 (fun b hb k=>by have:=R6.BO b k;omega);have z6x:=e6x.size;refine aa ?_;refine bN rfl (n8 rfl rfl ((k9.ah e6x))) ?_;rintro _ g7 ⟨rfl,k9',x7,z7⟩;refine eW ?_;exact st2 _ _ _ _ _ _ _ _ (by exact sb rfl) (R7.put x7 hL9') ((LB6.ah e6x).ext x7 (by show ¬_=_;omega) (by show ¬_=_;omega)) k9' ((k11.ah e6x).ext x7 (by show ¬_=_;omega)) ((hf2.mv (Mv.ah e6x)).mv (R7.eV x7 hL9')) (by simp only[bA,hg,if_true];exact hl2.mv (R7.eV x7 hL9'))
        · refine aa ?_;refine xp rfl (aE rfl (k11.cell (i:=2) rfl)) ?_;refine aa ?_;refine bN rfl (n8 rfl rfl k9) ?_;rintro _ g7 ⟨rfl,k9',x7,z7⟩;refine eW ?_;exact st2 _ _ _ _ _ _ _ _ (by exact sb rfl) (R6.put x7 hL9') (LB6.ext x7 (by show ¬_=_;omega) (by show ¬_=_;omega)) k9' (k11.ext x7 (by show ¬_=_;omega)) (hf2.mv (R6.eV x7 hL9')) (by simp only[bA,hg];exact hl1.mv (R6.eV x7 hL9'))
       refine jX (fun hg=>?_) (fun hg=>?_)
       · refine aa ?_;refine xp rfl (aE rfl (k9.cell (i:=1) rfl)) ?_;refine aa ?_;refine xp rfl (aE rfl (k11.cell (i:=1) rfl)) ?_;refine xo rfl (bz rfl (fO hf hf1 (by rw[hpok.first,hokx.1.first];exact Nat.le_refl _) (by rw[hpok.first];exact hn))) ?_;rintro w5 g6 ⟨ho6,e6x⟩;have R7:=R4.ah e6x;obtain⟨wa,wc,rfl,_⟩:=(show aj g6 g4.size 4 1 w5 (fU p.first out.1.first).length ((fU p.first out.1.first).map Value.bool) from ho6).open;have hf2:aP .bool g6 (j9 O rb vs1 vb L5) _ (fU p.first out.1.first):=aT.read (h1:=fun _=>rfl) ho6 (fun b hb k=>by have:=R4.BO b k;omega);have z6x:=e6x.size;refine aa ?_;refine bN rfl (n8 rfl rfl ((k9.ah e6x))) ?_;rintro _ g7 ⟨rfl,k9',x7,z7⟩;refine eW ?_;exact st1 _ _ _ _ _ (by exact sb rfl) (R7.put x7 hL9') ((LB4.ah e6x).ext x7 (by show ¬_=_;omega) (by show ¬_=_;omega)) k9' ((k11.ah e6x).ext x7 (by show ¬_=_;omega)) (by simp only[bA,hg,if_true];exact hf2.mv (R7.eV x7 hL9')) ((hl.mv (Mv.ah e6x)).mv (R7.eV x7 hL9')) ((hl1.mv (Mv.ah e6x)).mv (R7.eV x7 hL9'))
       · refine bT ?_;exact st1 _ _ _ _ _ (by exact sb rfl) R4 LB4 k9 k11 (by simp only[bA,hg];exact hf) hl hl1
     · have hnil:kids.drop i=[]:=List.drop_of_length_le (by omega);rw[hnil,bB] at hcon;refine aa ?_;refine xp rfl (gj rfl k9.row) ?_;refine bN rfl (dx rfl rfl LB.k6) ?_;rintro _ g9 ⟨rfl,hk9,hx9,hz9⟩;refine aa ?_;have hk9:aB g9 h1.size 79 [.bool p.null,.slice fa fn fc,.slice la ln lc]:=hk9;refine jK (jI rfl hk9.row jJ) ?_;subst hcon;exact⟨_,rfl,(R.put hx9 hL6').fin (hf.mv (R.eV hx9 hL6')) (hl.mv (R.eV hx9 hL6'))⟩
   · have h2k':¬k=2:=El h2k;refine aa ?_;refine bF (fun h3k=>?_) (fun h3k=>?_)
     · obtain rfl:k=3:=by omega
       have hglu:bJ n (.mk 3 s kids) st=bC n kids ⟨false,bO n,bO n⟩ st:=by rw[bJ];simp
       rw[hglu];generalize htgt:bC n kids ⟨false,bO n,bO n⟩ st=tgt;rw[if_neg (by decide),Nat.zero_add] at hroom;refine aa ?_;refine xp rfl (aq (H.cS _ _ _ _ _ _ _) rfl) ?_;refine xo rfl (jf) ?_;rintro _ h4 ⟨rfl,k9,e4,z4⟩;refine bN rfl (dx rfl rfl k9) ?_;rintro _ h5 ⟨rfl,k9,x5,z5⟩;have k9:aB h5 h3.size 79 [.bool false,.slice (some ⟨h2.size,0,none⟩) n n,.slice (some ⟨h2.size,0,none⟩) n n]:=k9;have e35:ak h3 h5:=ak.only e4 x5 (Nat.le_refl _);have e05:=e03.trans e35;generalize hL5e:(fun b=>L2 b\/b=Array.size h3:Nat->Prop)=L5;have hL5:∀b,L5 b->h.size<=b/\b<h5.size:=by rw[<-hL5e];rintro b (k|k);(have:=hL2 b k;omega);omega
       have hL4':L5 h.size:=by rw[<-hL5e];exact .inl hLn
       have hL6':L5 h1.size:=by rw[<-hL5e];exact .inl hLp
       have hL9':L5 h3.size:=by rw[<-hL5e];exact .inr rfl
       have R5:lF O rb vs vb vl h L5 h5.size h5 vs st:=⟨hr.ext (O':=xx O L5) e05 (fun _ _ k=>k) (fun _ _ k=>k.elim) (fun b hb k=>k.elim id (fun k=>by have:=hL5 b k;omega)),e05.mono (fun _ _ k=>k.elim),fun b hb=>.inl hb,Nat.le_refl _,by omega,hltM,hO,hL5⟩
       have hnb3:aP .bool h3 (j9 O rb vs vb L2) (.slice (some ⟨h2.size,0,none⟩) n n) (bO n):=aT.read (h1:=fun _=>rfl) q7 (fun b hb k=>by
        rcases k with k|k|k
        · have:=hltM b k;omega
        · have:=hO b k;omega
        · rw[<-hLe] at k;rcases k with k|k<;>omega)
       have hnb5:aP .bool h5 (j9 O rb vs vb L5) (.slice (some ⟨h2.size,0,none⟩) n n) (bO n):=hnb3.mv ⟨e35.size,fun b hb hn=>⟨e35.block b hb (fun k=>k),by
        rintro(k|k|k)
        · exact hn (.inl k)
        · exact hn (.inr (.inl k))
        · rw[<-hL5e] at k
          rcases k with k|k
          · exact hn (.inr (.inr k))
          · omega⟩⟩
       have LB5:p8 h.size h1.size (aX 3 s (.slice oa kn kc)) h5:=⟨q4.ah e35,q6.ah e35⟩
       refine aa ?_;refine C3 (σ:=Nat) (fun i=>[(0,.pointer (some ⟨rb,0,none⟩)),(2,.int .i64 (n:Nat)),(4,.pointer (some ⟨h.size,0,none⟩)),(6,.pointer (some ⟨h1.size,0,none⟩)),(12,.pointer (some ⟨h3.size,0,none⟩)),(13,.int .i64 (i:Nat))]) (fun i h'=>i<=kn/\∃vs' p fa fn fc la ln lc stc,lF O rb vs vb vl h L5 h5.size h' vs' stc/\p8 h.size h1.size (aX 3 s (.slice oa kn kc)) h'/\aB h' h3.size 79 [.bool p.null,.slice fa fn fc,.slice la ln lc]/\aP .bool h' (j9 O rb vs' vb L5) (.slice fa fn fc) p.first/\aP .bool h' (j9 O rb vs' vb L5) (.slice la ln lc) p.last/\cM n p/\fD n stc/\stc.1.length+cE (kids.drop i)<=n/\bC n (kids.drop i) p stc=tgt) (fun i=>kn-i) (0) ⟨Nat.zero_le _,vs,⟨false,bO n,bO n⟩,_,_,_,_,_,_,st,R5,LB5,k9,hnb5,hnb5,gO n false,hok,hroom,htgt⟩ ?_;rintro i g ⟨hi,vs',p,fa,fn,fc,la,ln,lc,stc,R,LB,k9,hf,hl,hpok,hcok,hcroom,hcon⟩ ih2;have hvb:=hr.qO;have hL5s:Array.size h3<Array.size h5:=(hL5 _ hL9').2;refine aa ?_;refine xp rfl (aE rfl (LB.k4.cell (i:=5) rfl)) ?_;refine aa ?_;refine bF (fun hlt=>?_) (fun hlt=>?_)
       · have hik:i<kids.length:=by omega
         obtain⟨x,hx⟩:∃x,kids[i]? =some x:=⟨_,List.getElem?_eq_getElem hik⟩
         have hdr:kids.drop i=x::kids.drop (i+1):=by
          obtain⟨hi',rfl⟩:=List.getElem?_eq_some_iff.1 hx;exact List.drop_eq_getElem_cons hi'
         rw[hdr,bC] at hcon;rw[hdr] at hcroom;simp only[cE] at hcroom;have hszx:=qa hx;have hwx:=mZ hwl hx;have hokx:=dK n x stc hcok;have hroomx:=hokx.2.2.2 hwx;obtain⟨b,o,cs,ha,hob,hrow,hnd⟩:=(hsl.mv R.old).get i x hx;obtain⟨w2,rfl,-⟩:=aA.open hnd;have hgz:=R.size;refine aa ?_;refine xp rfl (aE rfl (LB.k4.cell (i:=5) rfl)) ?_;refine aY ?_;refine xp rfl (bK rfl rfl i rfl ha) ?_;refine xp rfl (gj rfl hrow) ?_;refine aa ?_;refine xo rfl (bz rfl (ih (x:=x) (O:=xx O L5) (by omega) R.at_ (fun b hb=>R.BO b (.inr hb)) hnd hwx hcok (by omega) hn)) ?_;rintro _ g1 ⟨vs1,f1,l1,rfl,a1,hf1,hl1,e1x,ho1⟩;refine xo rfl (jf) ?_;rintro _ g2 ⟨rfl,k11,e2x,z2x⟩;generalize bJ n x stc=out at *;have hf1':∃oa n c,f1= .slice oa n c:=by obtain⟨oa,n,c,rfl,_⟩:=hf1;exact⟨_,_,_,rfl⟩
         obtain⟨f1a,f1n,f1c,rfl⟩:=hf1';have hl1':∃oa n c,l1= .slice oa n c:=by obtain⟨oa,n,c,rfl,_⟩:=hl1;exact⟨_,_,_,rfl⟩
         obtain⟨l1a,l1n,l1c,rfl⟩:=hl1';have R1:=R.sub a1 e1x ho1;have z1x:=e1x.size;have LB1:=LB.ext e1x (R.loc _ hL4') (R.loc _ hL6');have k9:=k9.ext e1x (R.loc _ hL9');have hf:=hf.mv (R.Av e1x ho1);have hl:=hl.mv (R.Av e1x ho1);refine bN rfl (dx rfl rfl k11) ?_;rintro _ g3 ⟨rfl,k11,x3,z3x⟩;have k11:aB g3 g1.size 79 [.bool out.1.null,.slice f1a f1n f1c,.slice l1a l1n l1c]:=k11;have e13:ak g1 g3:=ak.only e2x x3 (Nat.le_refl _);have R3':=R1.ah e13;have LB3:=LB1.ah e13;have k9:=k9.ah e13;have hf:=hf.mv (Mv.ah e13);have hl:=hl.mv (Mv.ah e13);have hf1:aP .bool g3 (j9 O rb vs1 vb L5) _ out.1.first:=aP.mv hf1 (Mv.ah e13)
         have hl1:aP .bool g3 (j9 O rb vs1 vb L5) _ out.1.last:=aP.mv hl1 (Mv.ah e13);have hcpok:=fC hpok hokx.1;have hg1n:¬g1.size=h3.size:=by omega
         have wmask:∀{ga gb:af}{w:Value}{xs:List Bool},lF O rb vs vb vl h L5 h5.size ga vs1 out.2->aT Value.bool gb ga.size 4 w xs->aP .bool gb (j9 O rb vs1 vb L5) w xs:=fun R ho=>aT.read (h1:=fun _=>rfl) ho (fun b hb k=>by have:=R.BO b k;omega)
         have hgl:∀{ga gb:af},ak ga gb->Ext (fun b=>g3.size<=b) ga gb:=fun e=>e.mono (fun _ _ k=>k.elim)
         have lf:p.first.length<=out.1.first.length:=by rw[hpok.first,hokx.1.first];exact Nat.le_refl _
         have ll:p.last.length<=out.1.last.length:=by rw[hpok.last,hokx.1.last];exact Nat.le_refl _
         have lfn:p.first.length<=1000000:=by rw[hpok.first];exact hn
         have lln:p.last.length<=1000000:=by rw[hpok.last];exact hn
         refine aa ?_;refine Af 18 17 ?_;refine aS 0 ?_;refine bL 1 rfl (fun h' e=>aE rfl (e.old (k9.cell (i:=0) rfl))) ?_;refine aS 2 ?_;refine aS 6 ?_;refine Gd 122 (fun hg=>?_) (fun hg=>?_)
         · refine FU 3 ?_;refine FU 4 ?_;refine aS 5 ?_;refine bL 7 rfl (fun h' e=>aE rfl (e.old (k9.cell (i:=1) rfl))) ?_;refine aS 8 ?_;refine bL 9 rfl (fun h' e=>aE rfl (e.old (k11.cell (i:=1) rfl))) ?_;refine aS 11 ?_;refine bL 12 rfl (fun h' e=>aE rfl (e.old (k9.cell (i:=2) rfl))) ?_;refine aS 13 ?_;refine bL 14 rfl (fun h' e=>aE rfl (e.old (k11.cell (i:=2) rfl))) ?_;refine eZ 10 rfl (bz rfl (fO hf hf1 lf lfn)) ?_;rintro w5 g5 ⟨ho5,e5x⟩;refine⟨fun _=>hgl e5x,?_⟩;refine eZ 15 rfl (bz rfl (fO (hl.mv (Mv.ah e5x)) (hl1.mv (Mv.ah e5x)) ll lln)) ?_;rintro w6 g6 ⟨ho6,e6x⟩;refine⟨fun _=>hgl e6x,?_⟩;obtain⟨wa,wc,rfl,_⟩:=(show aj g5 g3.size 4 1 w5 (fU p.first out.1.first).length ((fU p.first out.1.first).map Value.bool) from ho5).open;obtain⟨ua,uc,rfl,_⟩:=(show aj g6 g5.size 4 1 w6 (fU p.last out.1.last).length ((fU p.last out.1.last).map Value.bool) from ho6).open;have R5x:=R3'.ah e5x;have R6x:=R5x.ah e6x;have hf2:=(wmask R3' ho5).mv (Mv.ah e6x);have hl2:=wmask R5x ho6;have e36x:=e5x.trans e6x;refine bL 16 rfl (fun h' e=>aq (H.cS _ _ _ _ _ _ _) rfl) ?_;refine qp 17 rfl (dx rfl rfl ((k9.ah e36x))) ?_;rintro _ g7 ⟨rfl,k9',x7,z7⟩;refine⟨nofun,?_⟩;have k9':aB g7 h3.size 79 [.bool true,.slice wa (fU p.first out.1.first).length wc,.slice ua (fU p.last out.1.last).length uc]:=k9';refine lg ?_;refine aa ?_;exact ih2 (i+1) ⟨by omega,vs1,cI p out.1,_,_,_,_,_,_,_,R6x.put x7 hL9',(LB3.ah e36x).ext x7 (by show ¬_=_;omega) (by show ¬_=_;omega),by simp only[cI,hg,Bool.true_or];exact k9',hf2.mv (R6x.eV x7 hL9'),hl2.mv (R6x.eV x7 hL9'),hcpok,hokx.2.1,by omega,hcon⟩
         · refine aS 3 ?_;refine bL 4 rfl (fun h' e=>aE rfl (e.old (k11.cell (i:=0) rfl))) ?_;refine aS 5 ?_;refine bL 7 rfl (fun h' e=>aE rfl (e.old (k9.cell (i:=1) rfl))) ?_;refine aS 8 ?_;refine bL 9 rfl (fun h' e=>aE rfl (e.old (k11.cell (i:=1) rfl))) ?_;refine aS 11 ?_;refine bL 12 rfl (fun h' e=>aE rfl (e.old (k9.cell (i:=2) rfl))) ?_;refine aS 13 ?_;refine bL 14 rfl (fun h' e=>aE rfl (e.old (k11.cell (i:=2) rfl))) ?_;refine eZ 10 rfl (bz rfl (fO hf hf1 lf lfn)) ?_;rintro w5 g5 ⟨ho5,e5x⟩;refine⟨fun _=>hgl e5x,?_⟩;refine eZ 15 rfl (bz rfl (fO (hl.mv (Mv.ah e5x)) (hl1.mv (Mv.ah e5x)) ll lln)) ?_;rintro w6 g6 ⟨ho6,e6x⟩;refine⟨fun _=>hgl e6x,?_⟩;obtain⟨wa,wc,rfl,_⟩:=(show aj g5 g3.size 4 1 w5 (fU p.first out.1.first).length ((fU p.first out.1.first).map Value.bool) from ho5).open;obtain⟨ua,uc,rfl,_⟩:=(show aj g6 g5.size 4 1 w6 (fU p.last out.1.last).length ((fU p.last out.1.last).map Value.bool) from ho6).open;have R5x:=R3'.ah e5x;have R6x:=R5x.ah e6x;have hf2:=(wmask R3' ho5).mv (Mv.ah e6x);have hl2:=wmask R5x ho6;have e36x:=e5x.trans e6x;refine bL 16 rfl (fun h' e=>aq (H.cS _ _ _ _ _ _ _) rfl) ?_;refine qp 17 rfl (dx rfl rfl ((k9.ah e36x))) ?_;rintro _ g7 ⟨rfl,k9',x7,z7⟩;refine⟨nofun,?_⟩;have k9':aB g7 h3.size 79 [.bool out.1.null,.slice wa (fU p.first out.1.first).length wc,.slice ua (fU p.last out.1.last).length uc]:=k9';refine lg ?_;refine aa ?_;exact ih2 (i+1) ⟨by omega,vs1,cI p out.1,_,_,_,_,_,_,_,R6x.put x7 hL9',(LB3.ah e36x).ext x7 (by show ¬_=_;omega) (by show ¬_=_;omega),by simp only[cI,hg,Bool.false_or];exact k9',hf2.mv (R6x.eV x7 hL9'),hl2.mv (R6x.eV x7 hL9'),hcpok,hokx.2.1,by omega,hcon⟩
       · have hnil:kids.drop i=[]:=List.drop_of_length_le (by omega);rw[hnil,bC] at hcon;refine aa ?_;refine xp rfl (gj rfl k9.row) ?_;refine bN rfl (dx rfl rfl LB.k6) ?_;rintro _ g9 ⟨rfl,hk9,hx9,hz9⟩;refine aa ?_;have hk9:aB g9 h1.size 79 [.bool p.null,.slice fa fn fc,.slice la ln lc]:=hk9;refine jK (jI rfl hk9.row jJ) ?_;subst hcon;exact⟨_,rfl,(R.put hx9 hL6').fin (hf.mv (R.eV hx9 hL6')) (hl.mv (R.eV hx9 hL6'))⟩
     · have h3k':¬k=3:=El h3k;refine aa ?_
       have st45:∀(b45:Bool) (h':af) (ρ':Env),Sub [(0,.pointer (some ⟨rb,0,none⟩)),(2,.int .i64 (n:Nat)),(4,.pointer (some ⟨h.size,0,none⟩)),(6,.pointer (some ⟨h1.size,0,none⟩)),(7,.slice (some ⟨h2.size,0,none⟩) n n),(20,.int .i64 (k:Nat)),(138,.bool b45)] ρ'->h'=h3->b45=decide (k=4\/k=5)->G Tryd.prog 27 f27 [.code [1,1,1,1,1,1,1,0,1,0,1,1],.blk 0,.code [1,1,1]] ρ' h' (b8 (wX O rb h vs vb vl (bJ n (.mk k s kids) st))):=by
        rintro b45 h3' ρ' hsub rfl hb45;refine G.sub (ρ':=[(0,.pointer (some ⟨rb,0,none⟩)),(2,.int .i64 (n:Nat)),(4,.pointer (some ⟨h.size,0,none⟩)),(6,.pointer (some ⟨h1.size,0,none⟩)),(7,.slice (some ⟨h2.size,0,none⟩) n n),(20,.int .i64 (k:Nat)),(138,.bool b45)]) hsub ?_;refine jX (fun h45=>?_) (fun h45=>?_)
        · have hk45:k=4\/k=5:=by rw[h45] at hb45;exact of_decide_eq_true hb45.symm
          have hone:kids.length=1:=by
           rcases hk45 with rfl|rfl<;>(simp[ig] at hw;exact hw.1)
          obtain⟨x,rfl⟩:∃x,kids=[x]:=by match kids,hone with| [x],_=>exact⟨x,rfl⟩
          have hkn1:kn=1:=by simpa using hkn.symm
          have hszx:fV x<=cQ [x]:=by simp[cQ]
          have hcx:cnt x<=cE [x]:=by simp[cE]
          have hwx:ig x=true:=by simpa [ic] using hwl
          have hglu:bJ n (.mk k s [x]) st=(⟨(bJ n x st).1.null ||k ==4,(bJ n x st).1.first,(bJ n x st).1.last⟩,((bJ n x st).2.1,aQ (bJ n x st).1.last (bJ n x st).1.first (bJ n x st).2.2)):=by rw[bJ];simp[aU,h1k',h2k',h3k',hk45]
          rw[hglu];have hokx:=dK n x st hok;obtain⟨b,o,cs,ha,hob,hrow,hnd⟩:=(hsl.mv (Mv.ah e03)).get 0 x rfl;obtain⟨w2,rfl,-⟩:=aA.open hnd;have hO3:∀b,xx O L2 b->b<h3'.size:=fun b hb=>R3.BO b (.inr hb)
          refine aa ?_;refine xp rfl (aE rfl (q4.cell (i:=5) rfl)) ?_;refine xp rfl (bK rfl rfl 0 rfl ha) ?_;refine xp rfl (gj rfl hrow) ?_;refine aa ?_;refine xo rfl (bz rfl (ih (x:=x) (O:=xx O L2) (by omega) R3.at_ hO3 hnd hwx hok (by omega) hn)) ?_;rintro _ h5 ⟨vs5,f5,l5,rfl,a5,hf5,hl5,e5,ho5⟩;refine xo rfl (jf) ?_;rintro _ h6 ⟨rfl,k15,e6,z6⟩;generalize bJ n x st=out at *;have hf1:∃oa n c,f5= .slice oa n c:=by obtain⟨oa,n,c,rfl,_⟩:=hf5;exact⟨_,_,_,rfl⟩
          obtain⟨fa,fn,fc,rfl⟩:=hf1;have hl1:∃oa n c,l5= .slice oa n c:=by obtain⟨oa,n,c,rfl,_⟩:=hl5;exact⟨_,_,_,rfl⟩
          obtain⟨la,ln,lc,rfl⟩:=hl1;have R5:=R3.sub a5 e5 ho5;have z5:=e5.size;have q4:=(q4.ext e5 (R3.loc _ hLn)).ah e6;have q6:=(q6.ext e5 (R3.loc _ hLp)).ah e6;refine bN rfl (dx rfl rfl k15) ?_;rintro _ h7 ⟨rfl,k15,x7,z7⟩;have k15:aB h7 h5.size 79 [.bool out.1.null,.slice fa fn fc,.slice la ln lc]:=k15;have e57:ak h5 h7:=ak.only e6 x7 (Nat.le_refl _);have q4:=q4.ext x7 (by show ¬_=_;omega);have q6:=q6.ext x7 (by show ¬_=_;omega);have R7:=R5.ah e57;have hf7:aP .bool h7 (j9 O rb vs5 vb L2) _ out.1.first:=aP.mv hf5 (Mv.ah e57)
          have hl7:aP .bool h7 (j9 O rb vs5 vb L2) _ out.1.last:=aP.mv hl5 (Mv.ah e57);refine aa ?_;refine xp rfl (aE rfl (k15.cell (i:=2) rfl)) ?_;refine aa ?_;refine xp rfl (aE rfl (k15.cell (i:=1) rfl)) ?_;refine xo rfl (bz rfl (nK R7.at_ (fun b hb=>R7.BO b (.inr hb)) (cK hl7 (fun _ k=>.inl k)) (cK hf7 (fun _ k=>.inl k)) hokx.2.1 hokx.1.last hokx.1.first hn)) ?_;rintro _ h8 ⟨a8,e8⟩;have R8:=R7.FV a8 e8;have hf8:=hf7.mv (R7.zH e8);have hl8:=hl7.mv (R7.zH e8);have hvb:=hr.qO;have k15:=k15.ext e8 (fun k=>by have:=hvb _ k.symm;omega);have q4:=q4.ext e8 (fun k=>by have:=hvb _ k.symm;omega);have q6:=q6.ext e8 (fun k=>by have:=hvb _ k.symm;omega);refine aa ?_;refine xp rfl (aE rfl (k15.cell (i:=0) rfl)) ?_;refine aa ?_;refine ie 156 (fun hg=>?_) (fun hg=>?_)
          · refine aa ?_;refine xp rfl (aE rfl (k15.cell (i:=1) rfl)) ?_;refine aa ?_;refine xp rfl (aE rfl (k15.cell (i:=2) rfl)) ?_;refine xp rfl (aq (H.cS _ _ _ _ _ _ _) rfl) ?_;refine bN rfl (dx rfl rfl q6) ?_;rintro _ h9 ⟨rfl,hk9,hx9,hz9⟩;refine aa ?_;have hk9:aB h9 h1.size 79 [.bool true,.slice fa fn fc,.slice la ln lc]:=hk9;refine jK (jI rfl hk9.row jJ) ?_;have R9:=R8.put hx9 hLp;have hfin:=R9.fin (p:=⟨out.1.null ||k ==4,out.1.first,out.1.last⟩) (hf8.mv (R8.eV hx9 hLp)) (hl8.mv (R8.eV hx9 hLp));simp only[hg,Bool.true_or] at hfin ⊢;exact⟨_,rfl,hfin⟩
          · refine aa ?_;refine xp rfl (aE rfl (q4.cell (i:=0) rfl)) ?_;refine aa ?_;refine xp rfl (aE rfl (k15.cell (i:=1) rfl)) ?_;refine aa ?_;refine xp rfl (aE rfl (k15.cell (i:=2) rfl)) ?_;refine xp rfl (aq (H.cS _ _ _ _ _ _ _) rfl) ?_;refine bN rfl (dx rfl rfl q6) ?_;rintro _ h9 ⟨rfl,hk9,hx9,hz9⟩;refine aa ?_;have hk9:aB h9 h1.size 79 [.bool (decide ((k:Int)=4)),.slice fa fn fc,.slice la ln lc]:=hk9;refine jK (jI rfl hk9.row jJ) ?_;have R9:=R8.put hx9 hLp;have hfin:=R9.fin (p:=⟨out.1.null ||k ==4,out.1.first,out.1.last⟩) (hf8.mv (R8.eV hx9 hLp)) (hl8.mv (R8.eV hx9 hLp));have hkd:(k ==4)=decide ((k:Int)=4):=by rcases hk45 with rfl|rfl<;>rfl
            simp only[hg,Bool.false_or,hkd] at hfin ⊢;exact⟨_,rfl,hfin⟩
        · have hk45:¬(k=4\/k=5):=by rw[h45] at hb45;exact of_decide_eq_false hb45.symm
          refine aa ?_;refine bF (fun h6k=>?_) (fun h6k=>?_)
          · obtain rfl:k=6:=by omega
            have hone:kids.length=1:=by simp[ig] at hw;exact hw.1
            obtain⟨x,rfl⟩:∃x,kids=[x]:=by match kids,hone with| [x],_=>exact⟨x,rfl⟩
            have hkn1:kn=1:=by simpa using hkn.symm
            have hszx:fV x<=cQ [x]:=by simp[cQ]
            have hcx:cnt x<=cE [x]:=by simp[cE]
            have hwx:ig x=true:=by simpa [ic] using hwl
            have hglu:bJ n (.mk 6 s [x]) st=(⟨true,(bJ n x st).1.first,(bJ n x st).1.last⟩,(bJ n x st).2):=by rw[bJ];simp[aU]
            rw[hglu];have hokx:=dK n x st hok;obtain⟨b,o,cs,ha,hob,hrow,hnd⟩:=(hsl.mv (Mv.ah e03)).get 0 x rfl;obtain⟨w2,rfl,-⟩:=aA.open hnd;have hO3:∀b,xx O L2 b->b<h3'.size:=fun b hb=>R3.BO b (.inr hb)
            refine aa ?_;refine xp rfl (aE rfl (q4.cell (i:=5) rfl)) ?_;refine xp rfl (bK rfl rfl 0 rfl ha) ?_;refine xp rfl (gj rfl hrow) ?_;refine aa ?_;refine xo rfl (bz rfl (ih (x:=x) (O:=xx O L2) (by omega) R3.at_ hO3 hnd hwx hok (by omega) hn)) ?_;rintro _ h5 ⟨vs5,f5,l5,rfl,a5,hf5,hl5,e5,ho5⟩;refine xo rfl (jf) ?_;rintro _ h6 ⟨rfl,k15,e6,z6⟩;generalize bJ n x st=out at *;have hf1:∃oa n c,f5= .slice oa n c:=by obtain⟨oa,n,c,rfl,_⟩:=hf5;exact⟨_,_,_,rfl⟩
            obtain⟨fa,fn,fc,rfl⟩:=hf1;have hl1:∃oa n c,l5= .slice oa n c:=by obtain⟨oa,n,c,rfl,_⟩:=hl5;exact⟨_,_,_,rfl⟩
            obtain⟨la,ln,lc,rfl⟩:=hl1;have R5:=R3.sub a5 e5 ho5;have z5:=e5.size;have q6:=(q6.ext e5 (R3.loc _ hLp)).ah e6;refine bN rfl (dx rfl rfl k15) ?_;rintro _ h7 ⟨rfl,k15,x7,z7⟩;have k15:aB h7 h5.size 79 [.bool out.1.null,.slice fa fn fc,.slice la ln lc]:=k15;have e57:ak h5 h7:=ak.only e6 x7 (Nat.le_refl _);have q6:=q6.ext x7 (by show ¬_=_;omega);have R7:=R5.ah e57;have hf7:aP .bool h7 (j9 O rb vs5 vb L2) _ out.1.first:=aP.mv hf5 (Mv.ah e57)
            have hl7:aP .bool h7 (j9 O rb vs5 vb L2) _ out.1.last:=aP.mv hl5 (Mv.ah e57);refine aa ?_;refine xp rfl (aE rfl (k15.cell (i:=1) rfl)) ?_;refine aa ?_;refine xp rfl (aE rfl (k15.cell (i:=2) rfl)) ?_;refine xp rfl (aq (H.cS _ _ _ _ _ _ _) rfl) ?_;refine bN rfl (dx rfl rfl q6) ?_;rintro _ h9 ⟨rfl,hk9,hx9,hz9⟩;refine aa ?_;have hk9:aB h9 h1.size 79 [.bool true,.slice fa fn fc,.slice la ln lc]:=hk9;refine jK (jI rfl hk9.row jJ) ?_;have R9:=R7.put hx9 hLp;exact⟨_,rfl,R9.fin (p:=⟨true,out.1.first,out.1.last⟩) (hf7.mv (R7.eV hx9 hLp)) (hl7.mv (R7.eV hx9 hLp))⟩
          · have h6k':¬k=6:=El h6k;have hglu:bJ n (.mk k s kids) st=(⟨true,bO n,bO n⟩,st):=by rw[bJ];simp[h1k',h2k',h3k',hk45,h6k']
            rw[hglu];refine aa ?_;refine xp rfl (aq (H.cS _ _ _ _ _ _ _) rfl) ?_;refine bN rfl (dx rfl rfl q6) ?_;rintro _ h9 ⟨rfl,hk9,hx9,hz9⟩;refine aa ?_;have hk9:aB h9 h1.size 79 [.bool true,.slice (some ⟨h2.size,0,none⟩) n n,.slice (some ⟨h2.size,0,none⟩) n n]:=hk9;refine jK (jI rfl hk9.row jJ) ?_;have R9:=R3.put hx9 hLp
            have hnb:aP .bool h3' (j9 O rb vs vb L2) (.slice (some ⟨h2.size,0,none⟩) n n) (bO n):=aT.read (h1:=fun _=>rfl) q7 (fun b hb k=>by
             rcases k with k|k|k
             · have:=hltM b k;omega
             · have:=hO b k;omega
             · rw[<-hLe] at k;rcases k with k|k<;>omega)
            exact⟨_,rfl,R9.fin (p:=⟨true,bO n,bO n⟩) (hnb.mv (R3.eV hx9 hLp)) (hnb.mv (R3.eV hx9 hLp))⟩
       refine bF (fun h4k=>?_) (fun h4k=>?_)
       · have h4k':k=4:=by omega
         refine bT ?_;exact st45 (decide ((k:Int)=4)) _ _ (by exact sb rfl) rfl (by simp[h4k'])
       · have h4k':¬k=4:=El h4k;refine cU ?_
         iterate 2 refine aY ?_
         refine eW ?_;exact st45 (decide ((k:Int)=5)) _ _ (by exact sb rfl) rfl (by simp only[decide_eq_decide];omega)
theorem Cd:∀m,yx m:=by
 intro m
 induction m with
 |zero=>intro x h O rb vs vb vl w st n hsz;have:=gz x;omega
 |succ m ih=>exact zB ih
def Fw:gI Nat:=.record 4 (by decide) bq (fun _=>rfl) (fun x v hv=>by simp[bq] at hv;rcases hv with rfl|rfl|rfl|rfl<;>rfl)
def wT (h:af) (O:Nat->Prop) (rb:Nat) (r:dN):Prop :=
 ∃vs vb vl,¬O rb/\aB h rb 77 [vs,vb,vl]/\aP Fw h O vs r.sets/\aP mL h O vb r.behind/\aP .bool h O vl r.last
theorem wT.mv {h h':af}{O O':Nat->Prop}{rb:Nat}{r:dN}(k:wT h O rb r) (m:Mv O O' h h'):wT h' O' rb r:=by
 obtain⟨vs,vb,vl,ho,hk,h1,h2,h3⟩:=k;have hm:=m.block rb hk.lt ho;exact⟨vs,vb,vl,hm.2,hm.1.trans hk,h1.mv m,h2.mv m,h3.mv m⟩
theorem AR {x:Nd}{w:Value}(hx:aA h O (aX x.kind x.set w) x) (hw:ig x=true) (hsz:fV x<=500000) :
 an Tryd.prog 15 #[.agg (aX x.kind x.set w).toArray] h (b8 fun r h'=>∃rb,r= .pointer (some ⟨rb,0,none⟩)/\wT h' (fun b=>b<h.size) rb (fq x)/\ak h h'):=by
 have hcs:=xY x;have hx:=hx.mv (O':=fun b=>O b\/h.size<=b) ⟨Nat.le_refl _,fun b hb hn=>⟨rfl,fun k=>k.elim hn (fun k=>by omega)⟩⟩;refine cV ?_;refine aa ?_;refine xo rfl (wY) ?_;rintro _ h1 ⟨rfl,k1,e1,z1⟩;have k1:aB h1 h.size 49 (aX x.kind x.set w):=k1;refine aa ?_;refine xp rfl (gj rfl k1.row) ?_;refine xo rfl (bz rfl (Bo _ (x:=x) (Nat.le_refl _) (by omega) (hx.ah e1))) ?_;rintro _ h2 ⟨rfl,e2⟩;refine aa ?_;refine xp rfl (aq (H.Bu ) rfl) ?_;refine xo rfl (y3) ?_;rintro _ _ ⟨rfl,rfl⟩;refine xp rfl (aq (H.Dx _ _ _) rfl) ?_;refine xo rfl (wY) ?_;rintro _ h4 ⟨rfl,k4,e4,z4⟩;have q3:nW 4 bq (h2.push (.cells #[.int .u64 0,.int .u64 0,.int .u64 0,.int .u64 0] 46)) 0 46 (.slice (some ⟨h2.size,0,none⟩) 1 1) [0]:=nW.lT (fun _=>rfl) h2 0 46 0 (Nat.zero_le _) (cs:=[.int .u64 0,.int .u64 0,.int .u64 0,.int .u64 0]) (by simp[bq,Bk]);have e3:ak h2 (h2.push (.cells #[.int .u64 0,.int .u64 0,.int .u64 0,.int .u64 0] 46)):=Ext.push _ _ _;have z3:(h2.push (.cells #[.int .u64 0,.int .u64 0,.int .u64 0,.int .u64 0] 46)).size=h2.size+1:=by simp
 generalize h2.push (.cells #[.int .u64 0,.int .u64 0,.int .u64 0,.int .u64 0] 46)=h3 at *;have k4:aB h4 h3.size 77 [.slice (some ⟨h2.size,0,none⟩) 1 1,.slice none 0 0,.slice none 0 0]:=k4;have hz2:=e2.size;have e04:ak h h4:=((e1.trans e2).trans e3).trans e4
 have a4:fY h4 (fun b=>b<h.size) h3.size (.slice (some ⟨h2.size,0,none⟩) 1 1) (.slice none 0 0) (.slice none 0 0) ([0],[]) :=
  ⟨k4,nW.ah q3 e4,cN.nil _ _ _ _ _,fun b _ hb=>(by cases hb),fun hb=>(by simp[Value.ownBlock] at hb;omega),fun hb=>(by cases hb)⟩
 have k1:=((k1.ah e2).ah e3).ah e4;have hn:cnt x+1<=1000000:=by omega
 generalize hnn:cnt x+1=n at *;have hnn':((cnt x:Nat):Int)+1=(n:Nat):=by omega
 rw[hnn'];refine aa ?_;refine fG (σ:=Nat×Option Addr×Nat) (fun q=>[(5,.int .i64 (q.1:Nat))]) (fun q h'=>q.1<=n/\fY h' (fun b=>b<h.size) h3.size (.slice (some ⟨h2.size,0,none⟩) 1 1) (.slice q.2.1 q.1 q.2.2) (.slice none 0 0) ([0],List.replicate q.1 (bO n))/\ak h h'/\aB h' h.size 49 (aX x.kind x.set w)/\h4.size<=h'.size/\(∀b,(Value.slice q.2.1 q.1 q.2.2).ownBlock=some b->h4.size<=b)) (fun q=>n-q.1) ((0,none,0)) ⟨Nat.zero_le _,a4,e04,k1,Nat.le_refl _,fun b hb=>(by cases hb)⟩ rfl ?_;rintro⟨i,ba,bc⟩ g ⟨hi,ag,eg,kg,hgz,hvn⟩ ih
 try dsimp only
 dsimp only at hi ag hvn;have hown:=ag.qO;refine aa ?_;refine bF (fun hlt=>?_) (fun hlt=>?_)
 · have hin:i<n:=by omega
   obtain⟨css,hc1,hc2,hc3⟩:=id ag.rows;simp only[List.length_replicate] at hc1 hc2
   have hrM1:¬(bw (Value.slice ba i bc).ownBlock h3.size\/Array.size g<=h3.size):=by
    rintro(k|k)
    · exact(hown _ k.symm).1 rfl
    · have:=ag.blk.lt;omega
   have hlto:∀b,(bw (Value.slice ba i bc).ownBlock b\/b=h3.size\/bw (Value.slice (some ⟨h2.size,0,none⟩) 1 1).ownBlock b\/b<h.size)->b<g.size:=by
    rintro b (k|k|k|k)
    · exact(hown b k.symm).2
    · have:=ag.blk.lt;omega
    · exact(ag.sS b k.symm).2
    · have:=eg.size;omega
   refine aa ?_;refine vg 12 (fun b=>bw (Value.slice ba i bc).ownBlock b\/Array.size g<=b) (fun i=>Nat.blt i 11) ?_;refine aS 0 ?_;refine aS 1 ?_;refine aS 2 ?_;refine aS 3 ?_;refine bL 4 rfl (fun h' e=>aE rfl (e.cell hrM1 (ag.blk.cell (i:=1) rfl))) ?_;refine aS 5 ?_;refine eZ 6 rfl (aL.cY underlying61 H.BP H.BS rfl rfl rfl (by omega) (by decide)) ?_;rintro _ g5 ⟨rfl,k5,e5⟩;refine⟨fun _=>e5.mono (fun _ _ k=>k.elim),?_⟩;have k5:aT Value.bool g5 g.size 4 (.slice (some ⟨g.size,0,none⟩) n n) (bO n):=by unfold aT bO;simpa using k5
   have z5:=e5.size;have hc2':aj g5 0 61 1 (.slice ba i bc) i css.flatten:=aj.rV hc2 e5;refine eZ 7 rfl (ji [_]) ?_;rintro _ _ ⟨rfl,rfl⟩;refine⟨fun _=>by first|exact Ext.push _ _ _|assumption,?_⟩;refine eZ 8 rfl (oS rfl rfl hc2' rfl rfl) ?_;rintro v2 g6 ⟨ho6,hx6,hx6',hv6⟩;refine⟨fun _=>hx6'.mono (fun _ _ k=>.inl k),?_⟩;obtain⟨oa2,c2,rfl,_⟩:=ho6.open
   have hrow6:cN mL (fun b=>b=h3.size\/bw (Value.slice (some ⟨h2.size,0,none⟩) 1 1).ownBlock b\/b<h.size) g6 0 61 (.slice oa2 (i+1) c2) (List.replicate i (bO n)++[bO n]) :=
    cN.fo (e:=mL) (h:=g5) (v:=.slice ba i bc) (css:=css) (cs:=[.slice (some ⟨g.size,0,none⟩) n n]) (by simpa using hc1) (fun j cs y a b=>mL.mv (hc3 j cs y a b) (Mv.ah e5)) (by rw[List.length_replicate];exact ho6) hx6 hv6
     ⟨_,rfl,aT.read (h1:=fun _=>rfl) k5 (fun b hb k=>by have:=hlto b k;omega)⟩
   rw[<-List.replicate_succ'] at hrow6;have z6:=hx6.size;refine BL 9 ?_;refine aS 10 ?_;refine qp 11 rfl (n8 rfl rfl (((ag.blk.ah e5).ext hx6 (fun k=>(hown _ k.symm).1 rfl)))) ?_;rintro _ g7 ⟨rfl,k7,x7,z7⟩;refine⟨nofun,?_⟩;have k7:aB g7 h3.size 77 [.slice (some ⟨h2.size,0,none⟩) 1 1,.slice oa2 (i+1) c2,.slice none 0 0]:=k7
   have a7:fY g7 (fun b=>b<h.size) h3.size (.slice (some ⟨h2.size,0,none⟩) 1 1) (.slice oa2 (i+1) c2) (.slice none 0 0) ([0],List.replicate (i+1) (bO n)) :=
    ⟨k7,aj.ext x7 (aj.ext hx6 (aj.rV ag.sets e5) (fun b hb k=>ag.apart b hb k.symm)) (fun b hb (e:b=h3.size)=>(ag.sS b hb).1 e),hrow6.o9 x7 (fun b hb (e:b=h3.size)=>by
     rcases hv6 b hb with k|k
     · exact(hown b k).1 e
     · omega) (fun b _ k=>.inl k) (fun b _ k=>k),fun b hb hb2=>by
     have hbs:=(ag.sS b hb).2
     rcases hv6 b hb2 with k|k
     · exact ag.apart b hb k
     · omega,ag.ns,fun hb=>by
     have:=ag.blk.lt
     rcases hv6 _ hb with k|k
     · exact(hown _ k).1 rfl
     · omega⟩
   have e07:ak h g7:=⟨by have:=eg.size;omega,fun b hb k=>by
    rw[x7.block b (by have:=eg.size;omega) (by show ¬_=_;omega),hx6.block b (by have:=eg.size;omega) (fun k2=>by have:=hvn b k2.symm;omega),e5.block b (by have:=eg.size;omega) (fun k=>k)];exact eg.block b hb k⟩
   refine lg ?_;refine aa ?_
   exact ih (i+1,oa2,c2) ⟨hin,a7,e07,((kg.ah e5).ext hx6 (fun k2=>by have:=hvn _ k2.symm;omega)).ext x7 (by show ¬_=_;omega),by omega,fun b hb=>by
    rcases hv6 b hb with k|k
    · exact hvn b k
    · omega⟩ (by show n-(i+1)<n-i;omega)
 · obtain rfl:i=n:=by omega
   have hruok:fD i ([0],List.replicate i (bO i)):=⟨by simp,fun b hb=>by rw[(List.mem_replicate.1 hb).2];exact bZ _⟩
   have hvs:∀b,(Value.slice (some ⟨h2.size,0,none⟩) 1 1).ownBlock=some b->b=h2.size:=fun b hb=>by simp[Value.ownBlock] at hb;omega
   have hnd:aA g (sO h3.size (.slice (some ⟨h2.size,0,none⟩) 1 1) (.slice ba i bc)) (aX x.kind x.set w) x:=hx.mv ⟨eg.size,fun b hb hn=>⟨eg.block b hb (fun k=>k),by
    rintro(k|k|k)
    · omega
    · have:=hvs b k.symm;omega
    · have:=hvn b k.symm;omega⟩⟩
   refine aa ?_;refine xp rfl (gj rfl kg.row) ?_;refine aa ?_;refine xo rfl (bz rfl (Cd (fV x) (x:=x) (st:=([0],List.replicate i (bO i))) (n:=i) (Nat.le_refl _) ag (fun b k=>by have:=eg.size;omega) hnd hw hruok (by show 1+cnt x<=i;omega) hn)) ?_;rintro _ g8 ⟨vs8,f8,l8,rfl,a8,hf8,hl8,e8,ho8⟩;refine xo rfl (jf) ?_;rintro _ g9 ⟨rfl,k6,e9,z9⟩;have hglu:=dK i x ([0],List.replicate i (bO i)) hruok;have hofe:fq x=⟨(bJ i x ([0],List.replicate i (bO i))).2.1,(bJ i x ([0],List.replicate i (bO i))).2.2.set 0 (bJ i x ([0],List.replicate i (bO i))).1.first,(bJ i x ([0],List.replicate i (bO i))).1.last.set 0 (bJ i x ([0],List.replicate i (bO i))).1.null⟩:=by subst hnn;rfl
   rw[hofe];generalize bJ i x ([0],List.replicate i (bO i))=out at *;obtain⟨fa,fn,fc,rfl⟩:∃oa n c,f8= .slice oa n c:=by obtain⟨oa,n,c,rfl,_⟩:=hf8;exact⟨_,_,_,rfl⟩
   obtain⟨la,ln,lc,rfl⟩:∃oa n c,l8= .slice oa n c:=by obtain⟨oa,n,c,rfl,_⟩:=hl8;exact⟨_,_,_,rfl⟩
   refine bN rfl (dx rfl rfl k6) ?_;rintro _ g10 ⟨rfl,k6,x10,z10⟩;have k6:aB g10 g8.size 79 [.bool out.1.null,.slice fa fn fc,.slice la ln lc]:=k6;have e810:ak g8 g10:=ak.only e9 x10 (Nat.le_refl _);have a10:=a8.ah (O':=fun b=>b<h.size) e810 (fun _ _ k=>k);have hf10:=aP.mv hf8 (Mv.ah e810);have hl10:=aP.mv hl8 (Mv.ah e810);obtain⟨row0,hrow0⟩:∃r,out.2.2[0]? =some r:=⟨_,List.getElem?_eq_getElem (by have:=hglu.2.1.rows;omega)⟩
   obtain⟨gb,bc2,cs0,hvb,_,hgb2,hra,hfz,⟨w0,rfl,_⟩,hput⟩:=a10.rows.put hrow0;have hlen2:out.2.2.length=i:=hglu.2.1.rows;rw[hlen2] at hvb;cases hvb;have z8:=e8.size;have z810:=e810.size;have hgz8:h4.size<=g8.size:=by omega
   have hvn':h4.size<=gb:=hvn gb rfl;refine aa ?_;refine Af 8 7 ?_;refine aS 0 ?_;refine aS 1 ?_;refine aS 2 ?_;refine bL 3 rfl (fun h' e=>aE rfl (e.old (a10.blk.cell (i:=1) rfl))) ?_;refine aS 4 ?_;refine bL 5 rfl (fun h' e=>aE rfl (e.old (k6.cell (i:=1) rfl))) ?_;refine bL 6 rfl (fun h' e=>bK rfl rfl 0 rfl rfl) ?_;refine qp 7 rfl (aI H.xe rfl rfl rfl (hra 0 _ rfl) (hfz _)) ?_;rintro _ g11 ⟨rfl,hg11⟩;refine⟨nofun,?_⟩
   have hput:=hput 0 (.slice fa fn fc) out.1.first (by decide) ⟨_,rfl,cK hf10 (fun b k=>by
    rcases k with k|k|k|k
    · exact .inl (.inr (.inr k))
    · exact .inl (.inl k)
    · exact .inl (.inr (.inl k))
    · exact .inr k)⟩
   have hput:cN mL (fun b=>b=h3.size\/bw vs8.ownBlock b\/b<h.size) g11 0 61 (.slice (some ⟨gb,0,none⟩) i bc) (out.2.2.set 0 out.1.first):=by rw[hg11];exact hput
   have x11:Ext (fun b=>b=gb) g10 g11:=by rw[hg11];exact Ext.bY _ _ _ rfl
   have hgs:vs8.ownBlock≠some gb:=fun e=>a10.apart gb e rfl
   have hgr:gb≠h3.size:=fun e=>a10.nb (by subst e;rfl)
   have a11:fY g11 (fun b=>b<h.size) h3.size vs8 (.slice (some ⟨gb,0,none⟩) i bc) (.slice none 0 0) (out.2.1,out.2.2.set 0 out.1.first) :=
    ⟨a10.blk.ext x11 (by show ¬_=_;omega),aj.ext x11 a10.sets (fun b hb e=>hgs (by subst e;exact hb)),hput,a10.apart,a10.ns,a10.nb⟩
   have z11:=x11.size;have hn6:¬g8.size=gb:=by have:=(a8.qO gb rfl).2;omega
   have k6:=k6.ext x11 hn6;have hl11:=cK (Q':=fun b=>b=gb) hl10 (fun b k=>.inl (.inr (.inr (by subst k;rfl))));have hl11:=hl11.mv (Mv.gq x11 (O':=fun b=>b=gb) (fun b _ k=>⟨k,k⟩));obtain⟨hll,hlrow,hlm⟩:=aP.row hl11;have hllen:=hglu.1.last;have hone:∀u∈out.1.last.map Value.bool,u.oneCell'=true:=fun u hu=>by simp at hu;rcases hu with ⟨_,rfl⟩|⟨_,rfl⟩<;>rfl
   refine lg ?_;refine aa ?_;refine xp rfl (aE rfl (k6.cell (i:=2) rfl)) ?_;refine xo rfl (aL.append underlying61 H.BP rfl rfl (aj.nil g11 g11.size 4 1) (by simp[hll]) hlrow hone (by simp only[maxLen];omega) (by omega) (by omega)) ?_;rintro wl g12 ⟨ho12,hx12,-,hv12⟩;have ho12':aj g12 g11.size 4 1 wl ln (out.1.last.map Value.bool):=by simpa using ho12
   have e12:ak g11 g12:=nL hx12;obtain⟨oal,cl,rfl,_⟩:=ho12'.open;have z12:=e12.size;refine aa ?_;refine bN rfl (n8 rfl rfl ((a11.blk.ah e12))) ?_;rintro _ g13 ⟨rfl,k13,x13,z13⟩;have k13:aB g13 h3.size 77 [vs8,.slice (some ⟨gb,0,none⟩) i bc,.slice oal ln cl]:=k13;have hr11:=a11.blk.lt
   have hol:aT Value.bool g13 g11.size 4 (.slice oal ln cl) out.1.last:=by
    unfold aT;rw[hll];exact aj.ext x13 ho12' (fun b hb (e:b=h3.size)=>by have:=(aj.lt ho12' hb).1;omega)
   obtain⟨l0,hl0⟩:∃y,out.1.last[0]? =some y:=⟨_,List.getElem?_eq_getElem (by omega)⟩
   obtain⟨gl,cl',hvl,hgl1,hgl2,hlc,hlf,hlset⟩:=hol.at hl0;rw[hll] at hvl;cases hvl;have hlset:=hlset out.1.null;have hn63:¬g8.size=h3.size:=by have:=a8.blk.lt;omega
   have k6:=(k6.ah e12).ext x13 hn63;refine aa ?_;refine Af 8 7 ?_;refine aS 0 ?_;refine aS 1 ?_;refine aS 2 ?_;refine bL 3 rfl (fun h' e=>aE rfl (e.old (k13.cell (i:=2) rfl))) ?_;refine aS 4 ?_;refine bL 5 rfl (fun h' e=>aE rfl (e.old (k6.cell (i:=0) rfl))) ?_;refine bL 6 rfl (fun h' e=>bK rfl rfl 0 rfl rfl) ?_;refine qp 7 rfl (aI H.tg rfl rfl rfl hlc hlf) ?_;rintro _ g14 ⟨rfl,hg14⟩;refine⟨nofun,?_⟩;rw[<-hg14] at hlset;have x14:Ext (fun b=>b=gl) g13 g14:=by rw[hg14];exact Ext.bY _ _ _ rfl
   refine lg ?_;refine aa ?_;refine bU ?_
   have hlt11:∀b,sO h3.size vs8 (.slice (some ⟨gb,0,none⟩) i bc) b->b<g11.size:=by
    rintro b (k|k|k)
    · omega
    · exact(a11.sS b k.symm).2
    · exact(a11.qO b k.symm).2
   have e1114:Ext (fun b=>b=h3.size) g11 g14:=⟨by have:=x14.size;omega,fun b hb hn=>by rw[x14.block b (by omega) (by omega),x13.block b (by omega) hn];exact e12.block b hb (fun k=>k)⟩
   have hss:∀b,vs8.ownBlock=some b->h.size<=b:=fun b hb=>by
    have:=eg.size
    rcases ho8 b hb with k|k
    · have:=hvs b k;omega
    · omega
   refine⟨_,rfl,h3.size,rfl,⟨vs8,_,_,by omega,k13.ext x14 (by show ¬_=_;omega),?_,?_,?_⟩,?_⟩
   · exact nW.read (sG (aj.ext e1114 a11.sets (fun b hb e=>(a11.sS b hb).1 e)) hss) (fun b hb k=>by omega)
   · exact(a11.rows.o9 e1114 (fun b hb (e:b=h3.size)=>(a11.qO b hb).1 e) (fun b _ k=>.inl k) (fun b _ k=>k)).tB (fun b hb k=>by have:=hvn b hb;omega) (fun b _ k=>.inr (.inr k))
   · exact aT.read (h1:=fun _=>rfl) hlset (fun b hb k=>by omega)
   · have hzg:=eg.size;refine⟨by have:=x14.size;omega,fun b hb k=>?_⟩;rw[e1114.block b (by omega) (by omega),x11.block b (by omega) (by omega),e810.block b (by omega) (fun k=>k),e8.block b (by omega) ?_]
     · exact eg.block b hb k
     · rintro(k|k|k)
       · omega
       · have:=hvs b k.symm;omega
       · have:=hvn b k.symm;omega
theorem uj {r:dN}(hr:wT h O rb r) (hok:cz r n) (hn:n<=1000000) :
 an Tryd.prog 35 #[.pointer (some ⟨rb,0,none⟩)] h (b8 fun v h'=>aT Value.bool h' h.size 4 v (mj r)/\ak h h'):=by
 obtain⟨vs,vb,vl,ho,hk,h1,h2,h3⟩:=hr;obtain⟨sa,sn,sc,rfl,hs1,_⟩:=h1;have hsl:=hok.sets;have hsp:=hok.pos;refine cV ?_;refine aa ?_;refine xp rfl (aE rfl (hk.cell (i:=0) rfl)) ?_;refine aa ?_;refine xo rfl (aL.cY underlying61 H.BP H.BS rfl rfl rfl (by omega) (by decide)) ?_;rintro _ g1 ⟨rfl,k1,e1⟩;have k1:aT Value.bool g1 h.size 4 (.slice (some ⟨h.size,0,none⟩) sn sn) (bO r.sets.length):=by unfold aT bO;rw[hs1];simpa using k1
 obtain⟨g',c',hv',_,_,hcell,hfz,hset⟩:=k1.at (i:=0) (x:=false) (by unfold bO;rw[List.getElem?_replicate,if_pos (by omega)]);rw[bZ,hs1] at hv';cases hv';have hset:=hset true;refine aY ?_;refine eW ?_;refine bT ?_;refine cU ?_;refine aY ?_;refine xp rfl (bK rfl rfl 0 rfl rfl) ?_;refine bN rfl (aI H.tg rfl rfl rfl hcell hfz) ?_;rintro _ g2 ⟨rfl,hg2⟩;rw[<-hg2] at hset;refine aa ?_;refine bU ?_;exact⟨_,rfl,hset,ak.only e1 (by rw[hg2];exact Ext.bY _ _ _ rfl:Ext (fun b=>b=h.size) g1 g2) (Nat.le_refl _)⟩
theorem yh (ha:aP .bool h O v a) (hn:a.length<=1000000) :
 an Tryd.prog 57 #[v] h (b8 fun r h'=>r= .bool (iZ a)/\h'=h):=by
 obtain⟨oa,na,ca,rfl,hsa⟩:=ha.open;have hna:=hsa.len;refine cV ?_;refine aa ?_;refine fG (σ:=Nat) (fun i=>[(3,.int .i64 (i:Nat))]) (fun i h'=>i<=na/\h'=h/\iZ (a.drop i)=iZ a) (fun i=>na-i) (0) ⟨Nat.zero_le _,rfl,rfl⟩ rfl ?_;rintro i g ⟨hi,rfl,hcon⟩ ih;refine aa ?_;refine bF (fun hlt=>?_) (fun hlt=>?_)
 · obtain⟨ba,oo,x,hoa,_,hx,hcx⟩:=hsa.at (show i<na by omega)
   have hd:a.drop i=x::a.drop (i+1):=by
    obtain⟨hi',rfl⟩:=List.getElem?_eq_some_iff.1 hx;exact List.drop_eq_getElem_cons hi'
   rw[hd] at hcon;simp only[iZ,List.any_cons,id] at hcon
   iterate 4 refine bT ?_
   refine cU ?_
   iterate 2 refine aY ?_
   refine xp rfl (bK rfl rfl i rfl hoa) ?_;refine xp rfl (aE rfl hcx) ?_;refine aa ?_;refine jX (fun hb=>?_) (fun hb=>?_)
   · subst hb;refine aa ?_;refine bU ?_;exact⟨_,rfl,by rw[show iZ a=true by rw[iZ,<-hcon];rfl];rfl,rfl⟩
   · subst hb;refine aa ?_;exact ih (i+1) ⟨by omega,rfl,by rw[iZ,iZ,<-hcon];rfl⟩
 · have hd:a.drop i=[]:=List.drop_of_length_le (by omega);rw[hd] at hcon;refine aa ?_;refine bU ?_;exact⟨_,rfl,by rw[<-hcon];rfl,rfl⟩
theorem wF {Oa:Nat->Prop}{r:dN}(hr:wT h O rb r) (hok:cz r n) (ha:aP .bool h Oa v a) (hal:a.length=r.sets.length) (hn:n<=1000000) :
 an Tryd.prog 58 #[.pointer (some ⟨rb,0,none⟩),v] h (b8 fun u h'=>u= .bool (kI r a)/\h'=h):=by
 obtain⟨vs,vb,vl,ho,hk,h1,h2,h3⟩:=hr;obtain⟨la,ln,lc,rfl,hsl⟩:=h3.open;obtain⟨oa,na,ca,rfl,hsa⟩:=ha.open;have hna:=hsa.len;have hln:=hsl.len;have hss:=hok.sets;have hll:=hok.last;refine cV ?_;refine aa ?_;refine fG (σ:=Nat) (fun i=>[(5,.int .i64 (i:Nat))]) (fun i h'=>i<=na/\h'=h/\(List.zipWith (· && ·) (a.drop i) (r.last.drop i)).any id=kI r a) (fun i=>na-i) (0) ⟨Nat.zero_le _,rfl,rfl⟩ rfl ?_;rintro i g ⟨hi,rfl,hcon⟩ ih;refine aa ?_;refine bF (fun hlt=>?_) (fun hlt=>?_)
 · obtain⟨ba,oo,x,hoa,_,hx,hcx⟩:=hsa.at (show i<na by omega);obtain⟨bl,ol,y,hol,_,hy,hcy⟩:=hsl.at (show i<ln by omega)
   have hd:a.drop i=x::a.drop (i+1):=by
    obtain⟨hi',rfl⟩:=List.getElem?_eq_some_iff.1 hx;exact List.drop_eq_getElem_cons hi'
   have hd2:r.last.drop i=y::r.last.drop (i+1):=by
    obtain⟨hi',rfl⟩:=List.getElem?_eq_some_iff.1 hy;exact List.drop_eq_getElem_cons hi'
   rw[hd,hd2] at hcon;simp only[List.zipWith_cons_cons,List.any_cons,id] at hcon
   iterate 4 refine bT ?_
   refine jY [(24,.bool (x && y))] rfl ?_ ?_
   · iterate 2 refine aY ?_
     refine xp rfl (bK rfl rfl i rfl hoa) ?_;refine xp rfl (aE rfl hcx) ?_;refine aa ?_;refine ie 16 (fun hg=>?_) (fun hg=>?_)
     · refine aa ?_;refine xp rfl (aE rfl (hk.cell (i:=2) rfl)) ?_;refine aY ?_;refine xp rfl (bK rfl rfl i rfl hol) ?_;refine xp rfl (aE rfl hcy) ?_;refine aa ?_;exact bH rfl ⟨au rfl (by simp[hg]),sb rfl⟩
     · refine aa ?_;exact bH rfl ⟨au rfl (by simp[hg]),sb rfl⟩
   · refine jX (fun hb=>?_) (fun hb=>?_)
     · refine aa ?_;refine bU ?_;rw[hb] at hcon;exact⟨_,rfl,by rw[<-hcon];rfl,rfl⟩
     · rw[hb,Bool.false_or] at hcon;refine aa ?_;exact ih (i+1) ⟨by omega,rfl,hcon⟩
 · have hd:a.drop i=[]:=List.drop_of_length_le (by omega);rw[hd] at hcon;refine aa ?_;refine bU ?_;exact⟨_,rfl,by rw[<-hcon];rfl,rfl⟩
theorem yV (c:UInt8):∀(k:Nat) (out:List Bool) (sets:List Nat) (q:Nat) (o:Bool) (s:Nat),out[q]? =some o->sets[q]? =some s->(p7 c k out sets)[q]? =some (o && decide (0<k+q) && s.testBit c.toNat)
 |k,[],sets,q,o,s,h,_=>by simp at h
 |k,_::out,[],q,o,s,_,h=>by simp at h
 |k,x::out,y::sets,0,o,s,h1,h2=>by simp at h1 h2;subst h1 h2;simp[p7]
 |k,x::out,y::sets,q+1,o,s,h1,h2=>by
  rw[p7];simp only[List.getElem?_cons_succ] at h1 h2 ⊢;rw[yV c (k+1) out sets q o s h1 h2,show k+1+q=k+(q+1) by omega]
theorem vu {Oa:Nat->Prop}{r:dN}(c:UInt8) (hr:wT h O rb r) (hok:cz r n) (ha:aP .bool h Oa v a) (hal:a.length=r.sets.length) (hn:n<=1000000) :
 an Tryd.prog 36 #[.pointer (some ⟨rb,0,none⟩),v,.int .u8 (c.toNat:Nat)] h (b8 fun u h'=>aT Value.bool h' h.size 4 u (eX r a c)/\ak h h'):=by
 obtain⟨vs,vb,vl,ho,hk,h1,h2,h3⟩:=hr;obtain⟨ba,bn,bc,rfl,hsb⟩:=h2.open;obtain⟨sa,sn,sc,rfl,hss⟩:=h1.open;obtain⟨oa,na,ca,rfl,hsa⟩:=ha.open;have hna:=hsa.len;have hbn:=hsb.len;have hsn:=hss.len;have hsl:=hok.sets;have hrows:=hok.rows;subst hna;refine cV ?_;refine aa ?_;refine xo rfl (aL.cY underlying61 H.BP H.BS rfl rfl rfl (by omega) (by decide)) ?_;rintro _ h1 ⟨rfl,k1,e1⟩;have k1:aT Value.bool h1 h.size 4 (.slice (some ⟨h.size,0,none⟩) a.length a.length) (bO a.length):=by unfold aT bO;simpa using k1
 have hbl:∀b∈r.behind,(bO a.length).length<=b.length:=fun b hb=>by rw[hok.each b hb,bZ];omega
 have hol:=nu a r.behind (bO a.length) hbl;rw[bZ] at hol;generalize htgt:mo a r.behind (bO a.length)=tgt at hol;refine aa ?_;refine fG (σ:=Nat×Value×List Bool) (fun q=>[(7,q.2.1),(8,.int .i64 (q.1:Nat))]) (fun q h'=>q.1<=a.length/\ak h h'/\aT Value.bool h' h.size 4 q.2.1 q.2.2/\q.2.2.length=a.length/\mo (a.drop q.1) (r.behind.drop q.1) q.2.2=tgt) (fun q=>a.length-q.1) ((0,_,bO a.length)) ⟨Nat.zero_le _,e1,k1,bZ _,htgt⟩ rfl ?_;rintro⟨i,ov,cur⟩ g ⟨hi,eg,hov,hcl,hcon⟩ ih
 try dsimp only
 dsimp only at hi hov hcl hcon;have hkg:=hk.ah eg;have hzg:=eg.size;refine aa ?_;refine bF (fun hlt=>?_) (fun hlt=>?_)
 · have hia:i<a.length:=by omega
   obtain⟨b1,o1,x,hoa,_,hx,hcx⟩:=(hsa.mv (Mv.ah eg)).at hia;obtain⟨row,hrow⟩:∃row,r.behind[i]? =some row:=⟨_,List.getElem?_eq_getElem (by omega)⟩
   have hrl:=hok.each row (List.mem_of_getElem? hrow)
   have hd:a.drop i=x::a.drop (i+1):=by
    obtain⟨hi',rfl⟩:=List.getElem?_eq_some_iff.1 hx;exact List.drop_eq_getElem_cons hi'
   have hd2:r.behind.drop i=row::r.behind.drop (i+1):=by
    obtain⟨hi',rfl⟩:=List.getElem?_eq_some_iff.1 hrow;exact List.drop_eq_getElem_cons hi'
   rw[hd,hd2,mo] at hcon
   iterate 4 refine bT ?_
   refine cU ?_
   iterate 2 refine aY ?_
   refine xp rfl (bK rfl rfl i rfl hoa) ?_;refine xp rfl (aE rfl hcx) ?_;refine aa ?_;refine jX (fun hb=>?_) (fun hb=>?_)
   · rw[if_pos hb] at hcon;obtain⟨b2,o2,cs2,hba,_,hra,⟨w,rfl,hw⟩⟩:=(hsb.mv (Mv.ah eg)).get i row hrow;refine aa ?_;refine xp rfl (aE rfl (hkg.cell (i:=1) rfl)) ?_;refine aY ?_;refine xp rfl (bK rfl rfl i rfl hba) ?_;refine xp rfl (aE rfl (hra 0 _ rfl)) ?_;refine xo rfl (bz rfl (fO (aT.read (O:=fun _=>False) (h1:=fun _=>rfl) hov (fun _ _ k=>k)) hw (by omega) (by omega))) ?_;rintro w5 g5 ⟨ho5,e5⟩;refine aa ?_;exact ih (i+1,w5,fU cur row) ⟨hia,eg.trans e5,gX ho5 (by omega),by show (fU cur row).length=_;simp[fU];omega,hcon⟩
   · rw[if_neg (by rw[hb];decide)] at hcon;refine aa ?_;exact ih (i+1,ov,cur) ⟨hia,eg,hov,hcl,hcon⟩
 · have hd:a.drop i=[]:=List.drop_of_length_le (by omega);have hz:mo [] (r.behind.drop i) cur=cur:=by simp[mo]
   rw[hd,hz] at hcon;subst hcon;generalize hfin:p7 c 0 cur r.sets=fin;have hfl:fin.length=a.length:=by rw[<-hfin,sw _ _ _ _ (by omega)];exact hcl
   obtain⟨ova,ovc,rfl,_⟩:=(show aj g h.size 4 1 ov cur.length (cur.map Value.bool) from hov).open;refine aa ?_;refine fG (σ:=Nat) (fun i=>[(9,.int .i64 (i:Nat))]) (fun i h'=>i<=a.length/\ak h h'/\aT Value.bool h' h.size 4 (.slice ova cur.length ovc) (fin.take i++cur.drop i)) (fun i=>a.length-i) (0) ⟨Nat.zero_le _,eg,by simpa using hov⟩ rfl ?_;rintro i g ⟨hi,eg,hov⟩ ih;have hkg:=hk.ah eg;have hzg:=eg.size;refine aa ?_;refine bF (fun hlt=>?_) (fun hlt=>?_)
   · have hia:i<a.length:=by omega
     obtain⟨x,hx⟩:∃x,cur[i]? =some x:=⟨_,List.getElem?_eq_getElem (by omega)⟩
     obtain⟨s,hs⟩:∃s,r.sets[i]? =some s:=⟨_,List.getElem?_eq_getElem (by omega)⟩
     have hfa:=yV c 0 cur r.sets i x s hx hs;rw[hfin,Nat.zero_add] at hfa;obtain⟨hfi,hfv⟩:=List.getElem?_eq_some_iff.1 hfa;obtain⟨g',c',hv',hgb,_,hcell,hfz,hset⟩:=hov.at (by rw[uE hfl hia];exact hx);rw[uD hfl hcl hi,<-hcl] at hv';cases hv';have hms:=B8 hfl hcl hia;rw[hfv] at hms;have hset:=hset (x && decide (0<i) && s.testBit c.toNat);rw[hms] at hset
     have fin2:∀d,d=(x && decide (0<i) && s.testBit c.toNat)->∀ga gb,ak g ga->gb=bY ga ⟨g',0+i*1,none⟩ (.bool d)->ak h gb/\aT Value.bool gb h.size 4 (.slice (some ⟨g',0,none⟩) cur.length ovc) (fin.take (i+1)++cur.drop (i+1)):=by
      rintro d rfl ga gb ea rfl;have hova:=hov.ah ea;obtain⟨g2',c2',hv2,_,_,_,_,hset2⟩:=hova.at (by rw[uE hfl hia];exact hx);rw[uD hfl hcl hi,<-hcl] at hv2;cases hv2;have hset2:=hset2 (x && decide (0<i) && s.testBit c.toNat);rw[hms] at hset2;exact⟨ak.only (eg.trans ea) (Ext.bY (M:=fun b=>b=g') ga _ _ rfl) hgb,hset2⟩
     iterate 3 refine bT ?_
     refine cU ?_
     iterate 4 refine aY ?_
     refine xp rfl (bK rfl rfl i rfl rfl) ?_;refine xp rfl (aE rfl hcell) ?_;refine aa ?_;refine ie 44 (fun hg=>?_) (fun hg=>?_)
     · refine aa ?_;refine ie 48 (fun hg2=>?_) (fun hg2=>?_)
       · have hg2':=of_decide_eq_true hg2;obtain⟨b3,o3,cs3,hsa3,_,hrow3,rfl⟩:=(hss.mv (Mv.ah eg)).get i s hs;refine aa ?_;refine xp rfl (aE rfl (hkg.cell (i:=0) rfl)) ?_;refine aY ?_;refine xp rfl (bK rfl rfl i rfl hsa3) ?_;refine xp rfl (gj rfl hrow3) ?_;refine aa ?_;refine xo rfl (bz rfl (mD s c)) ?_;rintro _ g5 ⟨rfl,e5⟩;obtain⟨g5',c5',hv5,_,_,hcell5,hfz5,_⟩:=(hov.ah e5).at (by rw[uE hfl hia];exact hx);rw[uD hfl hcl hi,<-hcl] at hv5;cases hv5;refine aY ?_;refine xp rfl (bK rfl rfl i rfl rfl) ?_;refine bN rfl (aI H.tg rfl rfl rfl hcell5 hfz5) ?_;rintro _ g6 ⟨rfl,hg6⟩;refine aa ?_;exact ih (i+1) ⟨hia,fin2 _ (by rw[hg,decide_eq_true (show 0<i by omega)];rfl) g5 g6 e5 hg6⟩
       · have hg2':=of_decide_eq_false hg2
         iterate 9 refine DJ ?_
         refine aY ?_;refine xp rfl (bK rfl rfl i rfl rfl) ?_;refine bN rfl (aI H.tg rfl rfl rfl hcell hfz) ?_;rintro _ g6 ⟨rfl,hg6⟩;refine aa ?_;exact ih (i+1) ⟨hia,fin2 _ (by rw[decide_eq_false (show ¬0<i by omega)];simp) g g6 (Ext.refl _ _) hg6⟩
     · iterate 2 refine DJ ?_
       iterate 2 refine aY ?_
       iterate 9 refine DJ ?_
       refine aY ?_;refine xp rfl (bK rfl rfl i rfl rfl) ?_;refine bN rfl (aI H.tg rfl rfl rfl hcell hfz) ?_;rintro _ g6 ⟨rfl,hg6⟩;refine aa ?_;exact ih (i+1) ⟨hia,fin2 _ (by rw[hg];rfl) g g6 (Ext.refl _ _) hg6⟩
   · have hie:i=a.length:=by omega
     rw[List.take_of_length_le (by omega),List.drop_of_length_le (by omega),List.append_nil] at hov;refine aa ?_;refine bU ?_;refine⟨_,rfl,?_,eg⟩;rw[eX,htgt,hfin];exact hov
def Dt:gI dN:=⟨1,by decide,fun h O cs r=>∃rb,cs=[.pointer (some ⟨rb,0,none⟩)]/\wT h O rb r,fun h=>by obtain⟨rb,rfl,_⟩:=h;rfl,fun h=>by
 obtain⟨rb,rfl,_⟩:=h;intro u hu;simp at hu;subst hu;rfl,fun h m=>by
 obtain⟨rb,hc,hv⟩:=h;exact⟨rb,hc,hv.mv m⟩⟩
def dZ:List By->Int
 | []=>0
 |s::r=>if (az s).2≠0 then (az s).2 else dZ r
def de (l:List By):Int:=if l.length=0\/64<l.length then 2 else if dZ l≠0 then dZ l else if 2000<jk l then 70 else 0
def gM (l:List By):List dN:=l.map fun s=>fq (az s).1
def DE (h h':af) (l:List By) (r:Value):Prop :=
 ∃v,r= .tuple #[v,.int .i64 (de l)]/\(de l=0->aP Dt h' (fun b=>b<h.size) v (gM l))
theorem vF {rv:Value}{rules:List By}(hr:aP CS h (fun _=>False) rv rules) (hrl:∀s∈rules,s.length<=1000000) :
 an Tryd.prog 6 #[rv] h (b8 fun r h'=>DE h h' rules r/\ak h h'):=by
 obtain⟨oa,kn,kc,rfl,hsl⟩:=id hr.open;have hkn:=hsl.len;have hkc:=hsl.le;have hcap:=hsl.cap;generalize htgt:dZ rules=tgt;refine an.of func6 rfl rfl ?_;refine CI func6 2 [0,2,3] rfl ?_;refine hU rfl ?_;refine hU rfl ?_;refine G.AJ [(16,.bool (decide (kn=0\/64<kn)))] [(0,_),(2,_),(3,_)] ⟨rfl,rfl,rfl,trivial⟩ func6 rfl ?_ ?_
 · refine DM 1 rfl rfl (av.kD underlying22 rfl) ?_;refine Ag 2 rfl ?_;refine sF (d:=12) rfl (fun hg=>?_) (fun hg=>?_)
   · refine Ag 4 rfl ?_;refine fK rfl ?_;exact⟨rfl,au rfl (by have:=of_decide_eq_true hg;simp;omega),rfl,rfl,rfl,trivial⟩
   · refine DM 1 rfl rfl (av.kD underlying22 rfl) ?_;refine Ag 2 rfl ?_;refine fK rfl ?_;exact⟨rfl,au rfl (by have:=of_decide_eq_false hg;simp only[decide_eq_decide];omega),rfl,rfl,rfl,trivial⟩
 · refine sM rfl rfl (fun hbig=>?_) (fun hbig=>?_)
   · refine CI func6 2 [0,2,3,16] rfl ?_;refine y2 func6 rfl rfl ?_;have hp:de rules=2:=by unfold de;rw[if_pos (by omega)]
     exact⟨_,rfl,⟨_,by rw[hp];rfl,fun k=>by rw[hp] at k;cases k⟩,Ext.refl _ _⟩
   · have hp:de rules=if dZ rules≠0 then dZ rules else if 2000<jk rules then 70 else 0:=by unfold de;rw[if_neg (by omega)]
     rw[htgt] at hp;refine kZ rfl ?_;refine CI func6 1 [0,2,3,4,16] rfl ?_;refine CI func6 1 [0,2,3,4,5,16] rfl ?_;refine hU rfl ?_;refine CI func6 1 [0,2,3,4,5,6,16] rfl ?_;refine G.block rfl rfl ?_;refine G.loop (σ:=Nat×Value) (fun q=>[(0,.slice oa kn kc),(4,q.2),(5,.int .i64 (jk (rules.take q.1):Nat)),(6,.int .i64 (q.1:Nat))]) (fun q h'=>q.1<=kn/\ak h h'/\cN Dt (fun b=>b<h.size) h' h.size 52 q.2 (gM (rules.take q.1))/\jk (rules.take q.1)<=200*q.1/\dZ (rules.drop q.1)=tgt) (fun q=>kn-q.1) ((0,.slice none 0 0)) rfl ⟨rfl,rfl,rfl,rfl,trivial⟩ ⟨Nat.zero_le _,Ext.refl _ _,cN.nil _ _ _ _ _,by simp[jk],htgt⟩ ?_;rintro⟨i,ov⟩ g ⟨hi,eg,hov,htot,hcon⟩ ih
     try dsimp only
     dsimp only at hi hov htot hcon;have hzg:=eg.size;refine hU rfl ?_;refine DL func6 2 rfl ?_;refine xp rfl (av.kD underlying22 rfl) ?_;refine Ah 1 [0,4,5,6,20] rfl ?_;refine sM rfl rfl (fun hlt=>?_) (fun hlt=>?_)
     · obtain⟨s,hs⟩:∃s,rules[i]? =some s:=⟨_,List.getElem?_eq_getElem (by omega)⟩
       have hdr:rules.drop i=s::rules.drop (i+1):=by
        obtain⟨hi',rfl⟩:=List.getElem?_eq_some_iff.1 hs;exact List.drop_eq_getElem_cons hi'
       rw[hdr,dZ] at hcon;obtain⟨oa',n',c',hv',_,_,_,hget⟩:=id (hr.ah eg);cases hv';obtain⟨b,o,cs,ha,hob,hrow,rfl⟩:=hget i s hs;refine kZ rfl ?_;refine hU rfl ?_;refine G.block rfl rfl ?_;refine DL func6 2 rfl ?_;refine xp rfl (av.gS underlying22 H.DY rfl rfl i rfl ha (by omega)) ?_;refine xp rfl (dR H.ER rfl (hrow 0 _ rfl)) ?_;refine xo rfl (gY (vs:=[_]) func14 rfl H.Fo rfl (an.BN (uz s (hrl s (List.mem_of_getElem? hs))))) ?_;rintro _ g1 ⟨⟨w,rfl,hnd⟩,e01⟩;refine Ag 3 rfl ?_;refine xo rfl (aL.yj H.DR) ?_;rintro _ g2 ⟨rfl,k9,e12,z12⟩;refine RW.Aj rfl rfl rfl (aL.iN H.Au rfl rfl k9 (by first|rfl|(simp;done)|(simp;omega)) (by first|decide|exact of_decide_eq_true rfl|(simp;done)|(simp;omega)) (aA.one hnd)) ?_;rintro _ g3 ⟨rfl,k9',e23,z23⟩;refine Ah 1 [0,4,5,6,7,8,20] rfl ?_;refine hU rfl ?_;refine CI func6 2 [0,4,5,6,7,8,20,32] rfl ?_;have k9':aB g3 g1.size 49 (aX (az s).1.kind (az s).1.set w):=k9';have e13:ak g1 g3:=ak.only e12 e23 (Nat.le_refl _);have z01:=e01.size;have z13:=e13.size;refine sM rfl rfl (fun herr=>?_) (fun herr=>?_)
       · rw[if_pos (by exact herr)] at hcon;have hp':de rules=(az s).2:=by rw[hp,<-hcon,if_pos herr]
         refine CI func6 3 [0,2,3,4,5,6,7,8,20,32] rfl ?_;refine y2 func6 rfl rfl ?_;exact⟨_,rfl,⟨_,by rw[hp'];rfl,fun k=>by rw[hp'] at k;exact absurd k herr⟩,(eg.trans e01).trans e13⟩
       · have h0:(az s).2=0:=by simpa using herr
         rw[if_neg (by simpa using h0)] at hcon;have hsmall:=dB h0;obtain⟨css,hc1,hc2,hc3⟩:=id hov;have hrl2:(gM (rules.take i)).length=i:=by simp[gM];omega
         refine kZ rfl ?_;refine DL func6 1 rfl ?_;refine xp rfl (av.iS H.Dz H.Au rfl k9'.row (by first|rfl|(simp;done)|(simp;omega))) ?_;refine xo rfl (gY (vs:=[_]) func15 rfl H.Fm rfl (an.BN (AR (hnd.ah e13) hsmall.2.1 (by omega)))) ?_;rintro _ g4 ⟨rb,rfl,hrd,e34⟩;have z34:=e34.size;have e04:ak g g4:=(e01.trans e13).trans e34;refine xo rfl (aL.tU (us:=[_]) underlying25 H.Eo rfl rfl (by decide) (by simp[Value.oneCell'])) ?_;rintro _ _ ⟨rfl,rfl⟩;refine xo rfl (aL.eF underlying25 H.Eo rfl rfl ((hc2.rV e04)) rfl rfl (by first|decide|simp[Value.oneCell']) (by omega) (by decide) (by omega)) ?_;rintro v2 g6 ⟨ho6,hx6,hx6',hv6⟩;have htk:rules.take (i+1)=rules.take i++[s]:=by rw[List.take_add_one,hs];rfl
         have hrt:gM (rules.take (i+1))=gM (rules.take i)++[fq (az s).1]:=by rw[htk];simp[gM]
         have hown:∀b,ov.ownBlock=some b->h.size<=b/\b<g.size:=fun b hb=>hc2.lt hb
         have hrow6:cN Dt (fun b=>b<h.size) g6 h.size 52 v2 (gM (rules.take (i+1))):=by
          rw[hrt]
          exact cN.fo (h:=g4) (v:=ov) (css:=css) (cs:=[.pointer (some ⟨rb,0,none⟩)]) hc1 (fun j cs y a b=>Dt.mv (hc3 j cs y a b) (Mv.ah e04)) ho6 hx6 hv6 ⟨rb,rfl,hrd.mv ⟨Nat.le_refl _,fun b hb hn=>⟨rfl,fun k=>hn (by
           rcases k with k|k
           · have:=hown b k.symm;omega
           · omega)⟩⟩⟩
         have htt:=og hs
         have e06:ak h g6:=⟨by have:=hx6.size;omega,fun b hb k=>by
          rw[hx6.block b (by omega) (fun k2=>by have:=hown b k2.symm;omega),e04.block b (by omega) (fun k=>k)];exact eg.block b hb k⟩
         obtain⟨oa',n',c',hv',_,_,_,hget⟩:=id (hr.ah e06);cases hv';obtain⟨b,o,cs,ha,hob,hrow,rfl⟩:=hget i s hs;have hv5:((jk (rules.take i):Nat):Int)+((bs s).size:Nat)=(jk (rules.take (i+1)):Nat):=by rw[dF s];omega
         have hbs:=dF s;refine Ah 1 [0,4,5,6,7,8,20,32] rfl ?_;refine G.oA func6 rfl ?_;refine Ag 3 rfl ?_;refine xp rfl (av.gS underlying22 H.DY rfl rfl i rfl ha (by omega)) ?_;refine xp rfl (dR H.ER rfl (hrow 0 _ rfl)) ?_;refine xp rfl (av.oD underlying9 rfl) ?_;refine xp rfl (av.nT rfl rfl ⟨by omega,by omega⟩) ?_;refine Ah 1 [0,4,5,6,7,8,20,32] rfl ?_;refine G.oK ?_;refine G.oA func6 rfl ?_;refine DM 1 rfl rfl (av.nT rfl rfl ⟨by omega,by omega⟩) ?_;refine Ah 1 [0,4,5,6,7,8,20,32] rfl ?_;exact ih (i+1,v2) _ _ ⟨rfl,rfl,by rw[<-hv5];rfl,rfl,trivial⟩ ⟨by show i+1<=kn;omega,e06,hrow6,by show jk (rules.take (i+1))<=200*(i+1);omega,hcon⟩ (by show kn-(i+1)<kn-i;omega)
     · have hie:i=rules.length:=by omega
       subst hie;rw[List.take_length] at hov htot;have hnil:rules.drop rules.length=[]:=List.drop_length;rw[hnil,dZ] at hcon;subst hcon;rw[if_neg (by decide)] at hp;refine aa ?_;refine bF (fun hlong=>?_) (fun hlong=>?_)
       · rw[List.take_length] at hlong;have hp':de rules=70:=by rw[hp,if_pos (by omega)]
         refine aa ?_;refine bU ?_;exact⟨_,rfl,⟨_,by rw[hp'];rfl,fun k=>by rw[hp'] at k;cases k⟩,eg⟩
       · rw[List.take_length] at hlong;have hp':de rules=0:=by rw[hp,if_neg (by omega)]
         refine aa ?_;refine bU ?_;exact⟨_,rfl,⟨_,by rw[hp'];rfl,fun _=>hov.read (fun b hb k=>by omega) (fun b _ k=>k)⟩,eg⟩
end
end Go.Proofs.YtbbjkiigpdjaaaaDoor
namespace Go.Proofs.YtbbjkiigpdjaaaaDoor
open Go Go.Lw
set_option maxRecDepth 20000
def zY (rs:List dN):Prop:=∀r∈rs,∃n,cz r n/\n<=1000000
end Go.Proofs.YtbbjkiigpdjaaaaDoor
