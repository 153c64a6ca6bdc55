/- What the proof of the statement leans on (part 28). -/
import Derived.Lib.ConvBytes
import Derived.Lib.AtoiErrMem
import Derived.Laws.Runes
import Derived.Test.YtfegacfjgjaghaaGreatDoorQza

namespace Go.Lw
open Go.RowKit
section
variable {P:Program}{ρ:Env}{h:Heap}{dst:Option Nat}{ty:TypeId}{pos:String}{after:Array Edge}{guard:Option (Nat×Bool)}{X:List PanicEntry→Heap→Prop}
theorem OpP.sliceArrAll {t e:TypeId}{x:Operand}{b o m sz:Nat}(hu:P.underlying t=some (.array m e)) (hs:szOf P e=some sz) (hx:opd ρ x=some (.pointer (some ⟨b,o,none⟩))) :
 OpP P ⟨dst,.slice t x none none none,ty,pos,after,guard⟩ ρ h (.slice (partAddr (some ⟨b,o,none⟩) 0 sz m) (m-0) (m-0)):=by
 intro _ B a w hf _;simp[execOp,Instr.sliceAt,Instr.sliceBounds,Instr.sliceBound,run_underlying hu,hf.eval hx,run_sizeOf hs,partAddr,Instr.sureAddr];split<;>simp
end
end Go.Lw
namespace Go.Proofs.YtfegacfjgjaghaaGreatDoor
open Go Go.Lw
set_option maxRecDepth 20000
section
variable {h:Heap}{v:Value}{O:Nat→Prop}{names:List By}
def WordsAt (h:Heap):Prop:=Lw.rowAt h 1 0 (wordsC.map encT)
structure ComG (h:Heap):Prop where
 lx:LxG h
 words:WordsAt h
theorem ComG.ext0 {h h':Heap}(k:ComG h) (e:Ext0 h h'):ComG h':=⟨k.lx.ext0 e,e.rowAt (fun q=>q) k.words⟩
theorem call_all (hg:WordsAt h) (hv:SlR eBy h O v names) (hn:names.length≤1000) :
 CallsH Tryz.prog 27 #[v] h (Ret fun r h'=>SlR eBy h' (fun b=>b<h.size) r (sortP (names++wordsC))∧Ext0 h h'):=by
 refine CallsH.of Tryz.func27 rfl rfl ?_;refine xrd Tryz.func27 1 [0,2] rfl ?_;refine G.seq rfl ?_;refine G.draw (fun b=>Array.size h≤b) (fun i=>Nat.blt i 5) (sz:=5) (listed:= #[false,false,false,false,false]) Tryz.func27 H.mixed rfl rfl rfl ?_;refine xtq 0 1 (by kernel_rfl) rfl ?_;refine xtp 2 5 (by kernel_rfl) rfl (fun h' e=>OpP.sliceArrAll Tryz.underlying70 H.sz9 rfl  ) ?_;refine xto 1 7 (by kernel_rfl) rfl (OpX.call (vs:=[_]) Tryz.func50 rfl H.nm50 rfl (CallsH.toX (clone_calls hv (by omega)))) ?_;rintro v1 h1 ⟨ho1,e1⟩;refine⟨fun _=>e1.of,?_⟩;have z1:=e1.size;have hl10:wordsC.length=10:=rfl;refine xto 3 15 (by kernel_rfl) rfl (OpX.append Tryz.underlying22 H.el9 rfl rfl ho1 rfl (.inr ⟨_,_,rfl,e1.rowAt (fun q=>q) hg⟩) (fun u hu=>by obtain⟨x,_,rfl⟩:=List.mem_map.1 hu;rfl) (by simp only[maxLen];omega) (by omega) (by omega)) ?_;rintro v2 h2 ⟨ho2,hx2,_,hv2⟩;refine⟨fun _=>hx2.mono (fun y _ q=>by have:=(OwnH.lt ho1 q.symm).1;omega),?_⟩;have e2:Ext0 h h2:=Ext.own e1 ho1 (Nat.le_refl _) hx2
 have ho2':OwE encT h2 h.size 9 v2 (names++wordsC):=by
  show OwnH _ _ _ _ _ _ _
  rw[List.length_append,List.map_append];exact ho2
 have hne:names++wordsC≠[]:=fun q=>by have:=congrArg List.length q;rw[List.length_append,hl10] at this;simp at this
 have hnl:(names++wordsC).length≤1000000:=by rw[List.length_append,hl10];omega
 refine xtq 4 31 (by kernel_rfl) rfl ?_;refine RD.done (by kernel_rfl) ?_;refine xu [0,2,3] rfl ?_;refine xra Tryz.func27 1 rfl ?_;refine xo rfl (OpX.call (vs:=[_]) Tryz.func51 rfl H.nm51 rfl (CallsH.toX (sort_calls ho2' hne hnl))) ?_;rintro _ h3 ⟨rfl,ho3,x3⟩;have e3:Ext0 h h3:=Ext.own e2 ho2' (Nat.le_refl _) x3;have hne3:(names++wordsC).mergeSort leX≠[]:=fun q=>by have:=congrArg List.length q;rw[List.length_mergeSort] at this;exact hne (List.eq_nil_iff_length_eq_zero.2 this)
 refine xd [0,2,3] rfl ?_;refine xra Tryz.func27 1 rfl ?_;refine xo rfl (OpX.call (vs:=[_]) Tryz.func52 rfl H.nm52 rfl (CallsH.toX (compact_calls ho3 hne3 (by rw[List.length_mergeSort];exact hnl)))) ?_;rintro v4 h4 ⟨hs4,x4⟩;refine xqd 1 [0,2,3] rfl ?_;refine G.ret Tryz.func27 rfl rfl ?_;exact⟨_,rfl,hs4,Ext.own e3 ho3 (Nat.le_refl _) x4⟩
theorem sortP_len (l:List By):(sortP l).length≤l.length:=by
 unfold sortP;have:=Lib.compact_length_le (l.mergeSort fun x y=>decide (x≤y))
 rwa [List.length_mergeSort] at this
theorem Of_calls (hg:WordsAt h) (s:By) (hs:s.length≤1000000){w:Value}{O':Nat→Prop}{l:List Tk}(hv:SlR eTk h O v l) (hw:SlR eBy h O' w names) (hn:names.length≤1000) (a:Int) :
 CallsH Tryz.prog 14 #[.string (bs s),v,.int .i64 a,w] h (Ret fun r h'=>(∃lv,r= .tuple #[.int .i64 (ofC s l a names).1,lv]∧OwE encT h' h.size 9 lv (ofC s l a names).2)∧Ext0 h h'):=by
 have hz:=bs_size s;have hnc:=name_calls (h:=h) s hv a;obtain⟨⟨t,ok⟩,hN⟩:∃q,nameV s l a=q:=⟨_,rfl⟩
 rw[hN] at hnc;refine CallsH.of Tryz.func14 rfl rfl ?_;refine xrd Tryz.func14 2 [0,1,2,3,8,9] rfl ?_;refine xra Tryz.func14 3 rfl ?_;refine xo rfl (OpX.call (vs:=[_,_,_]) Tryz.func26 rfl H.nm26 rfl (CallsH.toX (hnc))) ?_;rintro _ h1 ⟨rfl,e1⟩;refine xqm 3 rfl ?_;refine xo rfl (OpX.allocN H.zr35) ?_;rintro _ h2 ⟨rfl,k2,e2,z2⟩;refine RW.op0 rfl rfl rfl (OpX.storeBlk H.sz35 rfl rfl k2 (by first|rfl|(simp;done)|(simp;omega)) (by first|decide|exact of_decide_eq_true rfl|(simp;done)|(simp;omega)) (tk_one _)) ?_;rintro _ h3 ⟨rfl,k3,x3,z3⟩;have e3:=e1.trans (Ext0.only e2 x3 (Nat.le_refl _));have z1:=e1.size;have k3:Blk h3 h1.size 35 (encTk t):=k3
 have hO:ofC s l a names=if ok=true then (t.2.1,listC (partC s t.2.1.toNat a.toNat) names) else (0,[]):=by
  unfold ofC;unfold nameV at hN;split at hN
  · rename_i q;rw[if_pos q,←(Prod.mk.inj hN).2];rfl
  · rename_i q;rw[if_neg q];split at hN
    · rename_i x hx;rw[hx,←(Prod.mk.inj hN).2,←(Prod.mk.inj hN).1];rfl
    · rename_i hx;rw[hx,←(Prod.mk.inj hN).2];rfl
 rw[hO];refine xqd 1 [0,1,2,3,8,9,10,11] rfl ?_;refine G.seq rfl ?_;refine xrd Tryz.func14 2 [0,1,2,3,8,9,10,11,22] rfl ?_;refine G.cond rfl rfl (fun hok=>?_) (fun hok=>?_)
 · have hok:ok=false:=by simpa using hok
   rw[hok,if_neg (by decide)];refine xrd Tryz.func14 2 [0,1,2,3,8,9,10,11,22] rfl ?_;refine G.ret Tryz.func14 rfl rfl ?_;exact⟨_,rfl,⟨_,rfl,OwE.nil _ _ _ _⟩,e3⟩
 · have hok:ok=true:=by simpa using hok
   rw[hok,if_pos rfl]
   have ht:0≤t.2.1∧t.2.1<a∧a≤s.length:=by
    unfold nameV at hN;split at hN
    · have:=(Prod.mk.inj hN).2;rw[hok] at this;cases this
    · rename_i q;split at hN
      · rename_i x hx;have hx2:nameT a s.length x=true:=List.find?_some hx;rw[(Prod.mk.inj hN).1] at hx2;have:=of_decide_eq_true hx2;omega
      · have:=(Prod.mk.inj hN).2;rw[hok] at this;cases this
   obtain⟨f,hf⟩:∃f:Nat,t.2.1=f:=⟨t.2.1.toNat,by omega⟩
   obtain⟨p,rfl⟩:∃p:Nat,a=p:=⟨a.toNat,by omega⟩
   have k3':Blk h3 h1.size 35 [.int .i64 t.1,.int .i64 (f:Nat),.int .i64 t.2.2]:=by rw[←hf];exact k3
   rw[hf,Int.toNat_natCast,Int.toNat_natCast];rw[hf] at ht;refine G.skip rfl ?_;refine G.seq rfl ?_;refine xra Tryz.func14 1 rfl ?_;refine xo rfl (OpX.call (vs:=[_]) Tryz.func27 rfl H.nm27 rfl (CallsH.toX (call_all (e3.rowAt (fun q=>q) hg) (hw.ext0 e3) hn))) ?_;rintro v4 h4 ⟨hs4,e4⟩;obtain⟨va,vn,vc,rfl,hvs⟩:=hs4.open;have hvn:(sortP (names++wordsC)).length=vn:=hvs.len;subst hvn;have hsl:=sortP_len (names++wordsC);rw[List.length_append,show wordsC.length=10 from rfl] at hsl;have k4:=k3'.ext0 e4;have e04:=e3.trans e4;have hps:(bs s).extract f p=bs (partC s f p):=bs_part s f p (by omega);refine xp rfl (OpP.lenSlice Tryz.underlying22 rfl) ?_;refine xqd 1 [0,1,2,3,8,9,10,11,22,24,25,26] rfl ?_;refine G.block rfl rfl ?_;refine G.loop (σ:=Nat×Value) (fun q=>[(0,.string (bs s)),(2,.int .i64 (p:Nat)),(9,q.2),(10,.pointer (some ⟨h1.size,0,none⟩)),(24,.slice va (sortP (names++wordsC)).length vc),(25,.int .i64 ((sortP (names++wordsC)).length:Nat)),(26,.int .i64 (q.1:Nat))]) (fun q h'=>q.1≤(sortP (names++wordsC)).length∧OwE encT h' h4.size 9 q.2 (((sortP (names++wordsC)).take q.1).filter (preB (partC s f p)))∧Ext0 h4 h') (fun q=>(sortP (names++wordsC)).length-q.1) ((0,.slice none 0 0)) rfl ⟨rfl,rfl,rfl,rfl,rfl,rfl,rfl,trivial⟩ ⟨Nat.zero_le _,OwE.nil _ _ _ _,Ext.refl _ _⟩ ?_;rintro⟨i,va2⟩ g ⟨hi,ho,eg⟩ ih
   try dsimp only
   dsimp only at hi ho;have zg:=eg.size;refine xrd Tryz.func14 1 [0,2,9,10,24,25,26,27] rfl ?_;refine G.seq rfl ?_;refine G.ite rfl rfl (fun hlt=>?_) (fun hlt=>?_)
   · have hlt':i<(sortP (names++wordsC)).length:=by omega
     obtain⟨b,o,x,ha,_,hx,hc⟩:=(hvs.mv (Mv.ext0 eg)).at hlt';have kg:=k4.ext0 eg;have hfl:(((sortP (names++wordsC)).take i).filter (preB (partC s f p))).length≤(sortP (names++wordsC)).length:=Nat.le_trans (List.length_filter_le _ _) (by rw[List.length_take];omega)
     have hfp:((sortP (names++wordsC)).take (i+1)).filter (preB (partC s f p))=((sortP (names++wordsC)).take i).filter (preB (partC s f p))++(if preB (partC s f p) x=true then [x] else []):=by
      rw[List.take_add_one,hx]
      by_cases hm:preB (partC s f p) x=true<;>simp[hm]
     refine G.skip rfl ?_;refine G.seq rfl ?_;refine G.block rfl rfl ?_;refine xr Tryz.func14 rfl ?_;refine xp rfl (OpP.indexSlice Tryz.underlying22 H.sz9 rfl rfl i rfl ha (by omega)) ?_;refine xp rfl (OpP.load H.ag9 rfl hc) ?_;refine xqd 1 [0,2,9,10,13,24,25,26,27] rfl ?_;refine xra Tryz.func14 2 rfl ?_;refine xp rfl (OpP.fieldAddr (off:=1) Tryz.underlying35 rfl rfl H.sz3 rfl) ?_;refine xp rfl (OpP.load H.ag3 rfl (kg.cell (i:=1) rfl)) ?_;refine xqp 1 rfl rfl (OpP.sliceStr Tryz.underlying9 rfl rfl f rfl rfl p rfl (by omega) (by omega)) ?_;rw[hps];refine xo rfl (OpX.call (vs:=[_,_]) Tryz.func28 rfl H.nm28 rfl (CallsH.toX (hp_calls x (partC s f p)))) ?_;rintro _ g ⟨rfl,rfl⟩;refine xd [0,2,9,10,13,24,25,26,27,36] rfl ?_;refine G.cond rfl rfl (fun hm=>?_) (fun hm=>?_)
     · rw[if_pos hm] at hfp;refine G.reg Tryz.func14 rfl ?_;refine xqm 2 rfl ?_;refine xo rfl (OpX.buildOnes (us:=[_]) Tryz.underlying22 H.el9 rfl rfl (by decide) (by simp[Value.oneCell'])) ?_;rintro _ _ ⟨rfl,rfl⟩;refine xo rfl (OpX.appendNew Tryz.underlying22 H.el9 rfl rfl (ho) rfl rfl (by first|decide|simp[Value.oneCell']) (Nat.le_trans (Nat.succ_le_succ hfl) (by omega)) (by decide) (by omega)) ?_;rintro v5 h5 ⟨ho5,hx5,hx5',hv5⟩;refine xqd 1 [0,2,9,10,13,24,25,26,27,36] rfl ?_;refine G.blkEnd ?_;refine G.reg Tryz.func14 rfl ?_;refine xp rfl (OpP.add64 rfl rfl ⟨by omega,by omega⟩) ?_;refine xqd 1 [0,2,9,10,13,24,25,26,27,36] rfl ?_
       have ho6:OwE encT h5 h4.size 9 v5 (((sortP (names++wordsC)).take (i+1)).filter (preB (partC s f p))):=by
        rw[hfp]
        show OwnH _ _ _ _ _ _ _
        rw[List.length_append,List.map_append];exact ho5
       exact ih (i+1,v5) _ _ ⟨rfl,rfl,rfl,rfl,rfl,rfl,rfl,trivial⟩ ⟨by show i+1≤_;omega,ho6,Ext.own eg ho (Nat.le_refl _) hx5⟩ (by show _-(i+1)<_-i;omega)
     · rw[if_neg (by rw[hm];decide),List.append_nil] at hfp;refine G.skip rfl ?_;refine G.blkEnd ?_;refine G.reg Tryz.func14 rfl ?_;refine xp rfl (OpP.add64 rfl rfl ⟨by omega,by omega⟩) ?_;refine xqd 1 [0,2,9,10,13,24,25,26,27,36] rfl ?_;exact ih (i+1,va2) _ _ ⟨rfl,rfl,rfl,rfl,rfl,rfl,rfl,trivial⟩ ⟨by show i+1≤_;omega,by rw[hfp];exact ho,eg⟩ (by show _-(i+1)<_-i;omega)
   · have hie:(sortP (names++wordsC)).take i=sortP (names++wordsC):=List.take_of_length_le (by omega);rw[hie] at ho;refine G.exit rfl rfl ?_;refine xr Tryz.func14 rfl ?_;refine xp rfl (OpP.fieldAddr (off:=1) Tryz.underlying35 rfl rfl H.sz3 rfl) ?_;refine xp rfl (OpP.load H.ag3 rfl ((k4.ext0 eg).cell (i:=1) rfl)) ?_;refine xqd 3 [0,2,8,9,10,24,25,26,27] rfl ?_;refine G.ret Tryz.func14 rfl rfl ?_;exact⟨_,rfl,⟨_,rfl,OwnH.lower ho e04.size⟩,e04.trans eg⟩
theorem lcp_at:∀(s t:By) (n:Nat),s.take n=t.take n→n≤s.length→n≤t.length→(n=s.length∨n=t.length∨s[n]? ≠t[n]?)→lcpP s t=s.take n
 | [], t, n, _, h1, _, _ => by have : n = 0 := by simpa using h1
                               subst this;rfl
 | a :: s, [], n, _, _, h2, _ => by have : n = 0 := by simpa using h2
                                    subst this;rfl
 |a::s,b::t,0,_,_,_,h3=>by
  rw[lcpP,if_neg,List.take_zero];intro e
  rcases h3 with h3|h3|h3
  · simp at h3
  · simp at h3
  · exact h3 (by simp[e])
 |a::s,b::t,n+1,h,h1,h2,h3=>by
  rw[List.take_succ_cons,List.take_succ_cons] at h;obtain⟨e,h⟩:=List.cons.inj h;rw[lcpP,if_pos e,List.take_succ_cons,lcp_at s t n h (by simpa using h1) (by simpa using h2) (by simpa using h3)]
theorem lcp_len (s t:By):(lcpP s t).length≤s.length:=((lcp_pre s t _).1 (List.prefix_refl _)).1.length_le
theorem Common_calls {xs:List By}(hv:SlR eBy h O v xs) (hl:∀x∈xs,x.length≤1000000) :
 CallsH Tryz.prog 10 #[v] h (Ret fun r h'=>r= .string (bs (comC xs))∧h'=h):=by
 obtain⟨va,vn,vc,rfl,hvs⟩:=hv.open;have hxl:xs.length=vn:=hvs.len;subst hxl;have hvm:=hvs.cap;have hvc:=hvs.le;simp only[maxLen] at hvm;refine CallsH.of Tryz.func10 rfl rfl ?_;refine xrd Tryz.func10 1 [0,2] rfl ?_;refine G.seq rfl ?_;refine xra Tryz.func10 1 rfl ?_;refine xp rfl (OpP.lenSlice Tryz.underlying22 rfl) ?_;refine xqd 1 [0,2,9] rfl ?_;refine G.ite rfl rfl (fun h0=>?_) (fun h0=>?_)
 · obtain rfl:xs=[]:=List.eq_nil_iff_length_eq_zero.2 (by omega);refine xrd Tryz.func10 1 [0,2,9] rfl ?_;refine G.ret Tryz.func10 rfl rfl ?_;exact⟨_,rfl,rfl,rfl⟩
 · have hpos:0<xs.length:=by omega
   obtain⟨b,o,x,ha,_,hx,hc⟩:=hvs.at hpos;have htl:=hvs.part (i:=1) (j:=xs.length) hpos (Nat.le_refl _)
   obtain⟨l,hxs⟩:∃l,xs=x::l:=by
    cases xs with
    |nil=>simp at hpos
    |cons y l=>cases hx;exact⟨l,rfl⟩
   have hdr:(xs.take xs.length).drop 1=l:=by rw[List.take_length,hxs];rfl
   rw[hdr] at htl;have hlen:xs.length-1=l.length:=by rw[hxs];simp
   have hll:∀y∈l,y.length≤1000000:=fun y hy=>hl y (by rw[hxs];simp[hy])
   have hxl:x.length≤1000000:=hl x (by rw[hxs];simp);have hco:comC xs=l.foldl lcpP x:=by rw[hxs];rfl
   rw[hco];refine G.skip rfl ?_;refine xra Tryz.func10 1 rfl ?_;refine xp rfl (OpP.indexSlice Tryz.underlying22 H.sz9 rfl rfl 0 rfl ha (by omega)) ?_;refine xp rfl (OpP.load H.ag9 rfl hc) ?_;refine xqd 1 [0,2,3,9] rfl ?_;refine G.seq rfl ?_;refine xra Tryz.func10 1 rfl ?_;refine xp rfl (OpP.sliceSliceLo Tryz.underlying22 H.sz9 rfl rfl 1 rfl (by omega)) ?_;refine xp rfl (OpP.lenSlice Tryz.underlying22 rfl) ?_;refine xqd 1 [0,2,3,9,14,15,16] rfl ?_;refine G.block rfl rfl ?_;refine G.loop (σ:=Nat×By) (fun q=>[(3,.string (bs q.2)),(14,.slice (partAddr va 1 eBy.sz vc) (xs.length-1) (vc-1)),(15,.int .i64 ((xs.length-1:Nat):Int)),(16,.int .i64 (q.1:Nat))]) (fun q h'=>h'=h∧q.1≤l.length∧(l.drop q.1).foldl lcpP q.2=l.foldl lcpP x∧q.2.length≤1000000) (fun q=>l.length-q.1) ((0,x)) rfl ⟨rfl,rfl,rfl,rfl,trivial⟩ ⟨rfl,Nat.zero_le _,rfl,hxl⟩ ?_;rintro⟨i,s⟩ g ⟨rfl,hi,hf,hsl⟩ ih
   try dsimp only
   dsimp only at hi hf hsl;have hzs:=bs_size s;refine xrd Tryz.func10 1 [3,14,15,16,17] rfl ?_;refine G.seq rfl ?_;refine G.ite rfl rfl (fun hlt=>?_) (fun hlt=>?_)
   · have hlt':i<l.length:=by omega
     obtain⟨b1,o1,t,ha1,_,ht,hc1⟩:=htl.at (show i<xs.length-1 by omega);have htl2:=hll t (List.mem_of_getElem? ht);have hzt:=bs_size t
     have hfd:(l.drop i).foldl lcpP s=(l.drop (i+1)).foldl lcpP (lcpP s t):=by
      obtain⟨hi',he⟩:=List.getElem?_eq_some_iff.1 ht;rw[List.drop_eq_getElem_cons hi',he,List.foldl_cons]
     rw[hfd] at hf;refine G.skip rfl ?_;refine G.seq rfl ?_;refine G.block rfl rfl ?_;refine xr Tryz.func10 rfl ?_;refine xp rfl (OpP.indexSlice Tryz.underlying22 H.sz9 rfl rfl i rfl ha1 (by omega)) ?_;refine xp rfl (OpP.load H.ag9 rfl hc1) ?_;refine xqd 1 [3,5,14,15,16,17] rfl ?_;refine xrd Tryz.func10 1 [3,5,6,14,15,16,17] rfl ?_;refine G.seq rfl ?_;refine G.block rfl rfl ?_;refine G.loop (σ:=Nat) (fun n=>[(3,.string (bs s)),(5,.string (bs t)),(6,.int .i64 (n:Nat)),(14,.slice (partAddr va 1 eBy.sz vc) (xs.length-1) (vc-1)),(15,.int .i64 ((xs.length-1:Nat):Int)),(16,.int .i64 (i:Nat))]) (fun n h'=>h'=g∧n≤s.length∧n≤t.length∧s.take n=t.take n) (fun n=>s.length-n) (0) rfl ⟨rfl,rfl,rfl,rfl,rfl,rfl,trivial⟩ ⟨rfl,Nat.zero_le _,Nat.zero_le _,rfl⟩ ?_;rintro n g' ⟨rfl,hn1,hn2,hst⟩ ih2;refine G.seq rfl ?_;refine G.seq rfl ?_;refine G.drawQTo1 [(35,.bool (decide (n<s.length∧n<t.length∧s[n]? =t[n]?)))] [(3,_),(5,_),(6,_),(14,_),(15,_),(16,_)] ⟨rfl,rfl,rfl,rfl,rfl,rfl,trivial⟩ Tryz.func10 H.mixed rfl (by kernel_rfl) ?_ ?_
     · refine RQ.pureS rfl rfl rfl rfl (OpP.move rfl) ?_;refine RQ.pureS rfl rfl rfl rfl (OpP.move rfl) ?_;refine RQ.pureS rfl rfl rfl rfl (OpP.lenString Tryz.underlying9 rfl) ?_;refine RQ.pureS rfl rfl rfl rfl (OpP.move rfl) ?_;refine RQ.pureS rfl rfl rfl rfl (OpP.lenString Tryz.underlying9 rfl) ?_;refine RQ.pureS rfl rfl rfl rfl (OpP.min2 rfl rfl) ?_;refine RQ.pureS rfl rfl rfl rfl (OpP.lss rfl rfl) ?_;refine RQ.pureS rfl rfl rfl rfl (OpP.move rfl) ?_;refine RQ.split (d:=27) rfl (fun c=>?_) (fun c=>?_)
       · have c:=of_decide_eq_true c;have hmn:n<s.length∧n<t.length:=by split at c<;>omega
         obtain⟨y,hy⟩:∃y,s[n]? =some y:=⟨_,List.getElem?_eq_getElem hmn.1⟩
         obtain⟨z,hz⟩:∃z,t[n]? =some z:=⟨_,List.getElem?_eq_getElem hmn.2⟩
         refine RQ.pureS rfl rfl rfl rfl (OpP.move rfl) ?_;refine RQ.pureS rfl rfl rfl rfl (OpP.move rfl) ?_;refine RQ.pureS rfl rfl rfl rfl (OpP.indexStr Tryz.underlying9 rfl rfl n rfl (bs_at hy)) ?_;refine RQ.pureS rfl rfl rfl rfl (OpP.move rfl) ?_;refine RQ.pureS rfl rfl rfl rfl (OpP.move rfl) ?_;refine RQ.pureS rfl rfl rfl rfl (OpP.indexStr Tryz.underlying9 rfl rfl n rfl (bs_at hz)) ?_;refine RQ.pureS rfl rfl rfl rfl (OpP.eqlInt rfl rfl) ?_;refine RQ.pureS rfl rfl rfl rfl (OpP.pickT rfl rfl) ?_;refine RQ.done rfl ?_;exact⟨rfl,at_bool rfl (by rw[decide_eq_decide,hy,hz];exact⟨fun q=>⟨hmn.1,hmn.2,congrArg some (UInt8.toNat_inj.1 (by omega))⟩,fun q=>by have q:=Option.some.inj q.2.2;rw[q]⟩),rfl,rfl,rfl,rfl,rfl,rfl,trivial⟩
       · have c:=of_decide_eq_false c;refine RQ.skipS rfl rfl rfl rfl ?_;refine RQ.skipS rfl rfl rfl rfl ?_;refine RQ.skipS rfl rfl rfl rfl ?_;refine RQ.skipS rfl rfl rfl rfl ?_;refine RQ.skipS rfl rfl rfl rfl ?_;refine RQ.skipS rfl rfl rfl rfl ?_;refine RQ.skipS rfl rfl rfl rfl ?_;refine RQ.pureS rfl rfl rfl rfl (OpP.pickF rfl rfl) ?_;refine RQ.done rfl ?_;exact⟨rfl,at_bool rfl (by rw[eq_comm,decide_eq_false];intro q;split at c<;>omega),rfl,rfl,rfl,rfl,rfl,rfl,trivial⟩
     · refine G.ite rfl rfl (fun hgo=>?_) (fun hgo=>?_)
       · have hst2:s.take (n+1)=t.take (n+1):=by rw[List.take_add_one,List.take_add_one,hst,hgo.2.2]
         refine G.skip rfl ?_;refine G.block rfl rfl ?_;refine G.reg Tryz.func10 rfl ?_;refine xqp 1 rfl rfl (OpP.add64 rfl rfl ⟨by omega,by omega⟩) ?_;refine xqd 1 [3,5,6,14,15,16,35] rfl ?_;refine G.blkEnd ?_;exact ih2 (n+1) _ _ ⟨rfl,rfl,rfl,rfl,rfl,rfl,trivial⟩ ⟨rfl,by omega,by omega,hst2⟩ (by omega)
       · have hlc:=lcp_at s t n hst hn1 hn2 (by
          by_cases q1:n=s.length
          · exact .inl q1
          · by_cases q2:n=t.length
            · exact .inr (.inl q2)
            · exact .inr (.inr fun q3=>hgo ⟨by omega,by omega,q3⟩))
         have hle:=lcp_len s t;refine G.exit rfl rfl ?_;refine G.reg Tryz.func10 rfl ?_;refine xqp 2 rfl rfl (OpP.sliceStrHi Tryz.underlying9 rfl rfl n rfl (by omega)) ?_;rw[bs_part s 0 n (Nat.zero_le _),List.drop_zero,←hlc];refine xqd 1 [3,5,6,14,15,16,35] rfl ?_;refine G.blkEnd ?_;refine G.reg Tryz.func10 rfl ?_;refine xp rfl (OpP.add64 rfl rfl ⟨by omega,by omega⟩) ?_;refine xqd 1 [3,5,6,14,15,16,35] rfl ?_;exact ih (i+1,lcpP s t) _ _ ⟨rfl,rfl,rfl,rfl,trivial⟩ ⟨rfl,by show i+1≤_;omega,hf,by show (lcpP s t).length≤1000000;omega⟩ (by show _-(i+1)<_-i;omega)
   · rw[List.drop_of_length_le (by omega),List.foldl_nil] at hf;rw[←hf];refine G.exit rfl rfl ?_;refine xrd Tryz.func10 2 [2,3,14,15,16,17] rfl ?_;refine G.ret Tryz.func10 rfl rfl ?_;exact⟨_,rfl,rfl,rfl⟩
theorem list_len (p:By) (names:List By) (hl:∀x∈names,x.length≤1000000):∀x∈listC p names,x.length≤1000000:=by
 intro x hx
 rcases ((list_mem p names x).1 hx).1 with q|q
 · exact hl x q
 · exact Nat.le_trans ((show ∀x∈wordsC,x.length≤10 by decide) x q) (by decide)
theorem of_len (s:By) (l:List Tk) (a:Int) (hl:∀x∈names,x.length≤1000000):∀x∈(ofC s l a names).2,x.length≤1000000:=by
 unfold ofC;split
 · intro x hx;cases hx
 · split
   · intro x hx;cases hx
   · exact list_len _ _ hl
theorem com_len {l:List By}{n:Nat}(hl:∀x∈l,x.length≤n):(comC l).length≤n:=by
 cases l with
 |nil=>exact Nat.zero_le _
 |cons x l =>
  have:=((com_pre (l:=x::l) (by simp) _).1 (List.prefix_refl _) x (by simp)).length_le;have:=hl x (by simp);omega
theorem Apply_calls (hg:WordsAt h) (s:By) (hs:s.length≤1000000){w:Value}{O':Nat→Prop}{l:List Tk}(hv:SlR eTk h O v l) (hw:SlR eBy h O' w names) (hn:names.length≤1000) (hl:∀x∈names,x.length≤1000000) (a:Int) :
 CallsH Tryz.prog 15 #[.string (bs s),v,.int .i64 a,w] h (Ret fun r h'=>r= .tuple #[.string (bs (applyC s l a names).1),.int .i64 (applyC s l a names).2]∧Ext0 h h'):=by
 have hz:=bs_size s;refine CallsH.of Tryz.func15 rfl rfl ?_;refine xrd Tryz.func15 2 [0,1,2,3,8,9] rfl ?_;refine xra Tryz.func15 4 rfl ?_;refine xo rfl (OpX.call (vs:=[_,_,_,_]) Tryz.func14 rfl H.nm14 rfl (CallsH.toX (Of_calls hg s hs hv hw hn a))) ?_;rintro _ h1 ⟨⟨lv,rfl,ho⟩,e1⟩;have hsl:SlR eBy h1 (fun _=>False) lv (ofC s l a names).2:=OwE.read (h1:=fun _=>rfl) ho (fun _ _ q=>q);obtain⟨la,ln,lc,rfl,hls⟩:=id hsl.open;have hln:(ofC s l a names).2.length=ln:=hls.len;subst hln;unfold applyC;refine xqd 5 [0,1,2,3,8,9,10,11] rfl ?_;refine G.seq rfl ?_;refine xra Tryz.func15 1 rfl ?_;refine xp rfl (OpP.lenSlice Tryz.underlying22 rfl) ?_;refine xqd 1 [0,1,2,3,8,9,10,11,23] rfl ?_;refine G.ite rfl rfl (fun h0=>?_) (fun h0=>?_)
 · rw[if_pos (List.eq_nil_iff_length_eq_zero.2 (by omega))];refine xrd Tryz.func15 4 [0,1,2,3,8,9,10,11,23] rfl ?_;refine G.ret Tryz.func15 rfl rfl ?_;exact⟨_,rfl,rfl,e1⟩
 · have hne:(ofC s l a names).2≠[]:=fun q=>h0 (by rw[q];rfl)
   rw[if_neg hne];obtain⟨p1,p2,p3,_⟩:=of_some hne;obtain⟨q1,q2,_⟩:=apply_doc hne;have hcl:=com_len (of_len s l a hl);obtain⟨li,hli⟩:∃li,li=(ofC s l a names).2:=⟨_,rfl⟩
   obtain⟨f,hf⟩:∃f,f=(ofC s l a names).1:=⟨_,rfl⟩
   rw[←hli] at q1 q2 hcl hsl ⊢;rw[←hf] at p1 p2 q1 q2 ⊢;have hzc:=bs_size (comC li);obtain⟨p,rfl⟩:∃p:Nat,a=p:=⟨a.toNat,by omega⟩
   refine G.skip rfl ?_;refine xra Tryz.func15 1 rfl ?_;refine xo rfl (OpX.call (vs:=[_]) Tryz.func10 rfl H.nm10 rfl (CallsH.toX (Common_calls hsl (by rw[hli];exact of_len s l p hl)))) ?_;rintro _ h1 ⟨rfl,rfl⟩;refine xqp 2 rfl rfl (OpP.sub64 rfl rfl ⟨by omega,by omega⟩) ?_;refine xp rfl (OpP.sliceStrLo Tryz.underlying9 rfl rfl ((p:Int)-f).toNat (by omega) (by omega)) ?_;rw[bs_drop];obtain⟨m,hm⟩:∃m,m=(comC li).drop ((p:Int)-f).toNat:=⟨_,rfl⟩
   rw[←hm] at q1 ⊢;have hzm:=bs_size m;have hml:m.length≤1000000:=by rw[hm,List.length_drop];omega
   refine xqd 1 [0,1,2,3,8,9,10,11,12,23] rfl ?_;refine G.seq rfl ?_;refine xra Tryz.func15 1 rfl ?_;refine xp rfl (OpP.lenString Tryz.underlying9 rfl) ?_;refine xqp 1 rfl rfl (OpP.lenString Tryz.underlying9 rfl) ?_;refine xp rfl (OpP.add64 rfl rfl ⟨by omega,by omega⟩) ?_;refine xqd 1 [0,1,2,3,8,9,10,11,12,23,37] rfl ?_;refine G.ite rfl rfl (fun hbig=>?_) (fun hbig=>?_)
   · rw[if_pos (by omega)];refine xrd Tryz.func15 4 [0,1,2,3,8,9,10,11,12,23,37] rfl ?_;refine G.ret Tryz.func15 rfl rfl ?_;exact⟨_,rfl,rfl,e1⟩
   · rw[if_neg (by omega)];have hp1:(bs s).extract 0 p=bs (s.take p):=by rw[bs_part s 0 p (Nat.zero_le _),List.drop_zero]
     have hp2:(bs s).extract p (bs s).size=bs (s.drop p):=bs_drop s p;have hz1:=bs_size (s.take p);have hz2:=bs_size (s.drop p);rw[List.length_take] at hz1;rw[List.length_drop] at hz2;refine G.skip rfl ?_;refine G.seq rfl ?_;refine G.draw (fun b=>Array.size h1≤b) (fun i=>Nat.blt i 15) (sz:=15) (listed:= #[false,false,false,false,false,false,false,false,false,false,false,false,false,false,false]) Tryz.func15 H.mixed rfl rfl rfl ?_;refine xtq 0 1 (by kernel_rfl) rfl ?_;refine xtq 1 3 (by kernel_rfl) rfl ?_;refine xtp 2 7 (by kernel_rfl) rfl (fun h' e=>OpP.sliceStrHi Tryz.underlying9 rfl rfl p rfl (by omega)) ?_;rw[hp1];refine xtq 3 15 (by kernel_rfl) rfl ?_;refine xtp 4 31 (by kernel_rfl) rfl (fun h' e=>OpP.addStr rfl rfl (by omega)) ?_;refine xtq 5 63 (by kernel_rfl) rfl ?_;refine xtq 6 127 (by kernel_rfl) rfl ?_;refine xtp 7 255 (by kernel_rfl) rfl (fun h' e=>OpP.sliceStrLo Tryz.underlying9 rfl rfl p rfl (by omega)) ?_;rw[hp2];refine xtp 8 511 (by kernel_rfl) rfl (fun h' e=>OpP.addStr rfl rfl (by rw[ByteArray.size_append];omega)) ?_;refine xtq 9 1023 (by kernel_rfl) rfl ?_;refine xtq 10 2047 (by kernel_rfl) rfl ?_;refine xtp 11 4095 (by kernel_rfl) rfl (fun h' e=>OpP.lenString Tryz.underlying9 rfl) ?_;refine xtp 12 8191 (by kernel_rfl) rfl (fun h' e=>OpP.add64 rfl rfl ⟨by omega,by omega⟩) ?_;refine xtq 13 16383 (by kernel_rfl) rfl ?_;refine xtq 14 32767 (by kernel_rfl) rfl ?_;refine RD.done (by kernel_rfl) ?_;refine xu [0,1,2,3,8,9,10,11,12,23,37] rfl ?_;refine G.ret Tryz.func15 rfl rfl ?_;exact⟨_,rfl,by rw[bs_append,bs_append,Int.toNat_natCast];rfl,e1⟩
theorem filter_take {p:By→Bool}{l:List By}{i:Nat}{x:By}(h:l[i]? =some x):(l.take (i+1)).filter p=(l.take i).filter p++(if p x=true then [x] else []):=by
 rw[List.take_add_one,h]
 by_cases hm:p x=true<;>simp[hm]
def nmC:List By:=[[102,111,114,107],[102,111,114],[102,111,111]]
theorem lex_le:(allP [108,101]).1=[(3,0,2)]∧(allP [102,111]).1=[(3,0,2)]∧(allP [102,111,114,107]).1=[(3,0,4)]:=by decide +kernel
theorem of_le:ofC [108,101] [(3,0,2)] 2 []=(0,[[108,101,116]]):=by
 unfold ofC;rw[if_neg (by decide)]
 show ((0:Int),listC [108,101] [])=_
 rw[←list_doc];decide
theorem of_fo:ofC [102,111] [(3,0,2)] 2 nmC=(0,[[102,111,111],[102,111,114],[102,111,114,107]]):=by
 unfold ofC;rw[if_neg (by decide)]
 show ((0:Int),listC [102,111] nmC)=_
 rw[←list_doc];decide
theorem of_fork:ofC [102,111,114,107] [(3,0,4)] 3 nmC=(0,[[102,111,114],[102,111,114,107]]):=by
 unfold ofC;rw[if_neg (by decide)]
 show ((0:Int),listC [102,111,114] nmC)=_
 rw[←list_doc];decide
theorem ap_le:applyC [108,101] [(3,0,2)] 2 []=([108,101,116],3):=by unfold applyC;rw[of_le];decide
theorem ap_fo:applyC [102,111] [(3,0,2)] 2 nmC=([102,111],2):=by unfold applyC;rw[of_fo];decide
theorem ap_fork:applyC [102,111,114,107] [(3,0,4)] 3 nmC=([102,111,114,107],3):=by unfold applyC;rw[of_fork];decide
theorem completed_calls (hg:ComG h):CallsH Tryz.prog 7 #[] h (Ret fun r h'=>r= .bool true∧Ext0 h h'):=by
 obtain⟨lim,hlim,hsg⟩:=hg.lx.sg;obtain⟨hl1,hl2,hl3⟩:=lex_le;have hnl:∀x∈nmC,x.length≤1000000:=fun x hx=>Nat.le_trans ((show ∀x∈nmC,x.length≤10 by decide) x hx) (by decide)
 refine CallsH.of Tryz.func7 rfl rfl ?_;refine xrd Tryz.func7 1 [0] rfl ?_;refine xr Tryz.func7 rfl ?_;refine xo rfl (OpX.call (vs:=[]) Tryz.func12 rfl H.nm12 rfl (CallsH.toX (new_calls hsg hlim hg.lx.tens hg.lx.rules))) ?_;rintro p h1 ⟨hL,e1⟩;refine xqd 1 [0,1] rfl ?_;refine xr Tryz.func7 rfl ?_;refine xo rfl (OpX.buildOnes (us:=[_,_,_]) Tryz.underlying22 H.el9 rfl rfl (by decide) (by simp[Value.oneCell'])) ?_;rintro _ h2 ⟨rfl,hh2⟩;have e2:Ext0 h1 h2:=by rw[hh2];exact Ext.push _ _ _
 have e02:=e1.trans e2
 have hnm:SlR eBy h2 (fun _=>False) (.slice (some ⟨h1.size,0,none⟩) 3 3) nmC:=by
  rw[hh2];exact OwE.read (h1:=fun _=>rfl) (OwE.made encT h1 9 nmC 3 rfl (by decide) h1.size (Nat.le_refl _) rfl) (fun _ _ k=>k)
 refine xqd 1 [0,1,2] rfl ?_;refine xra Tryz.func7 1 rfl ?_;refine xo rfl (OpX.call (vs:=[_,_]) Tryz.func13 rfl H.nm13 rfl (CallsH.toX (lall_calls (hg.lx.ext0 e02) (hL.ext0 e2) [108,101] (by decide)))) ?_;rintro _ h3 ⟨⟨v3,rfl,hv3⟩,e3⟩;refine xqm 3 rfl ?_;refine xo rfl (OpX.allocN H.zr27) ?_;rintro _ h4 ⟨rfl,k4,e4,z4⟩;refine xqm 1 rfl ?_;refine RW.op0 rfl rfl rfl (OpX.storeBlk H.sz27 rfl rfl k4 (by first|rfl|(simp;done)|(simp;omega)) (by first|decide|exact of_decide_eq_true rfl|(simp;done)|(simp;omega)) (by first|decide|simp[Value.oneCell'])) ?_;rintro _ h5 ⟨rfl,k5,x5,z5⟩;rw[hl1] at hv3;have f5:=e3.trans (Ext0.only e4 x5 (Nat.le_refl _));have e05:=e02.trans f5;have hv5:=hv3.ext0 (Ext0.only e4 x5 (Nat.le_refl _));refine xd [0,1,2,3] rfl ?_;refine xra Tryz.func7 1 rfl ?_;refine xo rfl (OpX.call (vs:=[_,_,_,_]) Tryz.func15 rfl H.nm15 rfl (CallsH.toX (Apply_calls (e05.rowAt (fun q=>q) hg.words) [108,101] (by decide) hv5 (SlR.nil eBy h5 (fun _=>False)) (by decide) (fun x hx=>by cases hx) 2))) ?_;rintro _ h6 ⟨rfl,e6⟩;rw[ap_le];have e06:=e05.trans e6;have hL6:=hL.ext0 ((e2.trans f5).trans e6);refine xqd 5 [0,1,2,3,5,6] rfl ?_;refine xra Tryz.func7 1 rfl ?_;refine xo rfl (OpX.call (vs:=[_,_]) Tryz.func13 rfl H.nm13 rfl (CallsH.toX (lall_calls (hg.lx.ext0 e06) hL6 [102,111] (by decide)))) ?_;rintro _ h7 ⟨⟨v7,rfl,hv7⟩,e7⟩;refine xqm 3 rfl ?_;refine xo rfl (OpX.allocN H.zr27) ?_;rintro _ h8 ⟨rfl,k8,e8,z8⟩;refine xqm 1 rfl ?_;refine RW.op0 rfl rfl rfl (OpX.storeBlk H.sz27 rfl rfl k8 (by first|rfl|(simp;done)|(simp;omega)) (by first|decide|exact of_decide_eq_true rfl|(simp;done)|(simp;omega)) (by first|decide|simp[Value.oneCell'])) ?_;rintro _ h9 ⟨rfl,k9,x9,z9⟩;rw[hl2] at hv7;have f9:=e7.trans (Ext0.only e8 x9 (Nat.le_refl _));have e09:=e06.trans f9;have hv9:=hv7.ext0 (Ext0.only e8 x9 (Nat.le_refl _));have hnm9:=hnm.ext0 ((f5.trans e6).trans f9);refine xd [0,1,2,3,5,6,7] rfl ?_;refine xra Tryz.func7 2 rfl ?_;refine xo rfl (OpX.call (vs:=[_,_,_,_]) Tryz.func14 rfl H.nm14 rfl (CallsH.toX (Of_calls (e09.rowAt (fun q=>q) hg.words) [102,111] (by decide) hv9 hnm9 (by decide) 2))) ?_;rintro _ h10 ⟨⟨lv,rfl,ho10⟩,e10⟩;rw[of_fo] at ho10 ⊢;have e010:=e09.trans e10;refine xqd 5 [0,1,2,3,5,6,7,9,10] rfl ?_;refine xra Tryz.func7 2 rfl ?_;refine xo rfl (OpX.call (vs:=[_,_,_,_]) Tryz.func15 rfl H.nm15 rfl (CallsH.toX (Apply_calls (e010.rowAt (fun q=>q) hg.words) [102,111] (by decide) (hv9.ext0 e10) (hnm9.ext0 e10) (by decide) hnl 2))) ?_;rintro _ h11 ⟨rfl,e11⟩;rw[ap_fo];have e011:=e010.trans e11;have hL11:=hL6.ext0 ((f9.trans e10).trans e11);refine xqd 5 [0,1,2,3,5,6,7,9,10,11] rfl ?_;refine xra Tryz.func7 1 rfl ?_;refine xo rfl (OpX.call (vs:=[_,_]) Tryz.func13 rfl H.nm13 rfl (CallsH.toX (lall_calls (hg.lx.ext0 e011) hL11 [102,111,114,107] (by decide)))) ?_;rintro _ h12 ⟨⟨v12,rfl,hv12⟩,e12⟩;refine xqm 3 rfl ?_;refine xo rfl (OpX.allocN H.zr27) ?_;rintro _ h13 ⟨rfl,k13,e13,z13⟩;refine xqm 1 rfl ?_;refine RW.op0 rfl rfl rfl (OpX.storeBlk H.sz27 rfl rfl k13 (by first|rfl|(simp;done)|(simp;omega)) (by first|decide|exact of_decide_eq_true rfl|(simp;done)|(simp;omega)) (by first|decide|simp[Value.oneCell'])) ?_;rintro _ h14 ⟨rfl,k14,x14,z14⟩;rw[hl3] at hv12;have f14:=e12.trans (Ext0.only e13 x14 (Nat.le_refl _));have e014:=e011.trans f14;have hv14:=hv12.ext0 (Ext0.only e13 x14 (Nat.le_refl _));have hnm14:=hnm9.ext0 ((e10.trans e11).trans f14);refine xd [0,1,2,3,5,6,7,9,10,11,13] rfl ?_;refine xra Tryz.func7 2 rfl ?_;refine xo rfl (OpX.call (vs:=[_,_,_,_]) Tryz.func15 rfl H.nm15 rfl (CallsH.toX (Apply_calls (e014.rowAt (fun q=>q) hg.words) [102,111,114,107] (by decide) hv14 hnm14 (by decide) hnl 3))) ?_;rintro _ h15 ⟨rfl,e15⟩;rw[ap_fork];have e015:=e014.trans e15;have hs10:SlR eBy h15 (fun _=>False) lv [[102,111,111],[102,111,114],[102,111,114,107]]:=(OwE.read (h1:=fun _=>rfl) ho10 (fun _ _ q=>q):SlR eBy h10 (fun _=>False) lv _).ext0 ((e11.trans f14).trans e15);obtain⟨oa,on,oc,rfl,hos⟩:=hs10.open;have hon:3=on:=hos.len;subst hon;obtain⟨b0,o0,y0,ha0,_,hy0,hc0⟩:=hos.at (i:=0) (by decide);obtain⟨b1,o1,y1,ha1,_,hy1,hc1⟩:=hos.at (i:=1) (by decide);obtain⟨b2,o2,y2,ha2,_,hy2,hc2⟩:=hos.at (i:=2) (by decide);cases hy0;cases hy1;cases hy2;refine xqd 5 [0,1,2,3,5,6,7,9,10,11,13,15] rfl ?_;refine G.seq rfl ?_;refine G.regTo1 [(0,.bool true)] [(1,_),(2,_),(3,_),(5,_),(6,_),(7,_),(9,_),(10,_),(11,_),(13,_),(15,_)] ⟨rfl,rfl,rfl,rfl,rfl,rfl,rfl,rfl,rfl,rfl,rfl,trivial⟩ Tryz.func7 rfl ?_ ?_
 · refine xqp 1 rfl rfl (OpP.eqlStr rfl rfl) ?_;refine xqm 1 rfl ?_;refine RW.know (d:=59) (b':=true) rfl (decide_eq_true (rfl)) ?_;refine xqm 4 rfl ?_;refine RW.know (d:=63) (b':=true) rfl (decide_eq_true (rfl)) ?_;refine xqm 4 rfl ?_;refine RW.know (d:=67) (b':=true) rfl (decide_eq_true (rfl)) ?_;refine xqp 1 rfl rfl (OpP.lenSlice Tryz.underlying22 rfl) ?_;refine xqm 3 rfl ?_;refine RW.know (d:=72) (b':=true) rfl (decide_eq_true (rfl)) ?_;refine xqp 1 rfl rfl (OpP.indexSlice Tryz.underlying22 H.sz9 rfl rfl 0 rfl ha0 (by decide)) ?_;refine xp rfl (OpP.load H.ag9 rfl hc0) ?_;refine xp rfl (OpP.eqlStr rfl rfl) ?_;refine xqm 2 rfl ?_;refine RW.know (d:=78) (b':=true) rfl (decide_eq_true (rfl)) ?_;refine xqp 1 rfl rfl (OpP.indexSlice Tryz.underlying22 H.sz9 rfl rfl 1 rfl ha1 (by decide)) ?_;refine xp rfl (OpP.load H.ag9 rfl hc1) ?_;refine xp rfl (OpP.eqlStr rfl rfl) ?_;refine xqm 2 rfl ?_;refine RW.know (d:=84) (b':=true) rfl (decide_eq_true (rfl)) ?_;refine xqp 1 rfl rfl (OpP.indexSlice Tryz.underlying22 H.sz9 rfl rfl 2 rfl ha2 (by decide)) ?_;refine xp rfl (OpP.load H.ag9 rfl hc2) ?_;refine xp rfl (OpP.eqlStr rfl rfl) ?_;refine xqm 2 rfl ?_;refine RW.know (d:=90) (b':=true) rfl (decide_eq_true (rfl)) ?_;refine xqp 1 rfl rfl (OpP.eqlStr rfl rfl) ?_;refine xqm 2 rfl ?_;refine RW.know (d:=94) (b':=true) rfl (decide_eq_true (rfl)) ?_;refine xqp 1 rfl rfl (OpP.eqlStr rfl rfl) ?_;refine xqm 2 rfl ?_;refine RW.done rfl ?_;exact⟨rfl,at_bool rfl (rfl),rfl,rfl,rfl,rfl,rfl,rfl,rfl,rfl,rfl,rfl,rfl,trivial⟩
 · refine G.ret Tryz.func7 rfl rfl ?_;exact⟨_,rfl,rfl,e015⟩
end
end Go.Proofs.YtfegacfjgjaghaaGreatDoor
namespace Go.Proofs.YtfegacfjgjaghaaGreatDoor
open Go Go.Lw Go.ChangeShapes Go.WideShapes Go.ChangeAt Go.RowKit
set_option maxRecDepth 100000
theorem words_data:(Rows.laid_limner_complete_words:DataW Unit)= .agg (wordsC.map fun s=>.lit (.string s)):=by kernel_rfl
theorem com_glob {W:World}(hL:laidMetH Tryz.prog Rows.completeOfRow.laid W) (hS:W.ShapedOpen Tryz.prog):ComG W.heap:=by
 refine⟨lex_glob hL hS,fun n v hv=>?_⟩;rw[MakeChecks.laidMetH_plain _ _ _ (by kernel_rfl)] at hL;have h4:=Lib.laidMet.reads hL (n:= "limner/complete.words") (.tail _ (.tail _ (.tail _ (.tail _ (.head _)))));rw[words_data] at h4;have hn:n<10:=by have:=(List.getElem?_eq_some_iff.1 hv).1;rw[List.length_map] at this;exact this
 rw[List.getElem?_map,List.getElem?_eq_getElem (show n<wordsC.length from hn)] at hv;have hv:v=encT wordsC[n]:=(Option.some.inj hv).symm;subst hv;obtain⟨g,t,cs,fuel,p,hg,hty,hvar,hd⟩:=h4;obtain rfl:=Option.some.inj ((show Tryz.prog.globalNamed "limner/complete.words" =some 1 by kernel_rfl).symm.trans hg);obtain rfl:=Option.some.inj ((show (Tryz.prog.globals[1]?).map (·.type)=some 70 by kernel_rfl).symm.trans hty);obtain⟨fuel',d,q,hdi,he⟩:=Lib.array_elem Tryz.underlying70 hd n hn
 have hdi:d= .lit (.string wordsC[n]):=by
  rw[List.getElem?_map,List.getElem?_eq_getElem (show n<wordsC.length from hn)] at hdi;exact(Option.some.inj hdi).symm
 subst hdi;have c1:Tryz.prog.cellsOf 9=1:=by kernel_rfl
 rw[c1] at he;have hv:=trod_str_lit Tryz.underlying9 he;have e0:=congrArg (·[0]?) hv;simp only[List.getElem?_take,List.getElem?_drop] at e0;rw[Nat.zero_add,←cell_heap,World.var?_cell hg hvar n,←Array.getElem?_toList]
 show _=some (Value.string ⟨wordsC[n].toArray⟩)
 simpa using e0
end Go.Proofs.YtfegacfjgjaghaaGreatDoor
namespace Go.Proofs.YtfegacfjgjaghaaGreatDoor
open Go
set_option maxRecDepth 100000
section
variable {ss:List Ste}{tab reps:List UInt8}{st j:Nat}{l s:By}
def isLet (c:UInt8):Bool:=decide ((97≤c.toNat∧c.toNat≤122)∨(65≤c.toNat∧c.toNat≤90)∨c.toNat=95)
def isNam (c:UInt8):Bool:=isLet c ||decide (48≤c.toNat∧c.toNat≤57)
def isLow (c:UInt8):Bool:=decide (97≤c.toNat∧c.toNat≤122)
def chkL (ss:List Ste) (H:List (List Nat×Nat)) (tab:List UInt8):Bool :=
 H.all fun p=>(List.range 256).all fun c=> !isLet (UInt8.ofNat c) ||(let T:=stepP ss (tab.getD c 0) p.1
  T.isEmpty ||decide (0≤acceptsP ss T) ||(List.range 256).all fun d=> !isNam (UInt8.ofNat d) ||(let U:=stepP ss (tab.getD d 0) T
   U.isEmpty ||(decide (0≤acceptsP ss U) && !isLet (UInt8.ofNat d))))
theorem chkL0:chkL ste0 ht0 tab0=true:=by decide +kernel
theorem chkL1:chkL ste1 ht1 tab1=true:=by decide +kernel
theorem chkL2:chkL ste2 ht2 tab2=true:=by decide +kernel
def nameL:List Nat:=[5,7]
theorem name_acc:acceptsP ste0 nameL=2:=by decide +kernel
theorem chkN:((List.range 256).all fun d=>if isNam (UInt8.ofNat d) then decide (stepP ste0 (tab0.getD d 0) nameL=nameL) else (stepP ste0 (tab0.getD d 0) nameL).isEmpty)=true:=by decide +kernel
theorem chkS:((List.range 256).all fun d=> !isLet (UInt8.ofNat d) ||decide (stepP ste0 (tab0.getD d 0) (startP ste0 53)=nameL))=true:=by decide +kernel
theorem chkA:(ht0.all fun p=>(decide (acceptsP ste0 p.1≠2) ||decide (p.1=nameL)) && (List.range 256).all fun d=> !decide (stepP ste0 (tab0.getD d 0) p.1=nameL) ||(decide (p.1=nameL) && isNam (UInt8.ofNat d)) ||(decide (p.1=startP ste0 53) && isLet (UInt8.ofNat d)))=true:=by decide +kernel
theorem chkZ:(ht0.all fun p=>(List.range 256).all fun d=> !decide (stepP ste0 (tab0.getD d 0) p.1=startP ste0 53))=true:=by decide +kernel
theorem start_ne:startP ste0 53≠nameL∧startP ste0 53≠[]:=by decide +kernel
theorem step_tab (h:chkReps ss tab reps=true) (c:UInt8) (T:List Nat):stepP ss c T=stepP ss (tab.getD c.toNat 0) T:=by
 unfold chkReps at h;rw[Bool.and_eq_true] at h;have h2:=List.all_eq_true.1 h.2 c.toNat (List.mem_range.2 c.toNat_lt);rw[Bool.and_eq_true] at h2;exact stepP_rep (fun x hx=>by simpa using List.all_eq_true.1 h2.2 x hx) T
theorem of_nat (c:UInt8):UInt8.ofNat c.toNat=c:=UInt8.ofNat_toNat
theorem chkL_spec {H:List (List Nat×Nat)}(hr:chkReps ss tab reps=true) (hc:chkL ss H tab=true){T:List Nat}(hT:T∈H.map (·.1)) (c:UInt8) (hcl:isLet c=true) :
 stepP ss c T=[]∨0≤acceptsP ss (stepP ss c T)∨∀d,isNam d=true→stepP ss d (stepP ss c T)=[]∨(0≤acceptsP ss (stepP ss d (stepP ss c T))∧isLet d=false):=by
 obtain⟨p,hp,rfl⟩:=List.mem_map.1 hT;have h1:=List.all_eq_true.1 (List.all_eq_true.1 hc p hp) c.toNat (List.mem_range.2 c.toNat_lt);rw[of_nat,hcl,←step_tab hr c] at h1;simp only[Bool.not_true,Bool.false_or,Bool.or_eq_true,List.isEmpty_iff,decide_eq_true_eq] at h1
 rcases h1 with (h1|h1)|h1
 · exact .inl h1
 · exact .inr (.inl h1)
 · refine .inr (.inr fun d hd=>?_);have h2:=List.all_eq_true.1 h1 d.toNat (List.mem_range.2 d.toNat_lt);rw[of_nat,hd,←step_tab hr d] at h2;simp only[Bool.not_true,Bool.false_or,Bool.or_eq_true,List.isEmpty_iff,Bool.and_eq_true,decide_eq_true_eq,Bool.not_eq_true'] at h2;exact h2
theorem fold_in {ss:List Ste}{S:List (List Nat)}(hS:Shut ss S):∀(w:By) (T:List Nat),(T=[]∨T∈S)→(w.foldl (fun T c=>stepP ss c T) T=[]∨w.foldl (fun T c=>stepP ss c T) T∈S)
 | [],T,h=>h
 |c::w,T,h=>by
  rw[List.foldl_cons];refine fold_in hS w _ ?_
  rcases h with rfl|h
  · exact .inl (stepP_nil ss c)
  · exact(hS T h c).imp (fun q=>List.length_eq_zero_iff.1 q) id
theorem run_dead {a:By}(b:By) (h:runP ss st a=[]):runP ss st (a++b)=[]:=by rw[runP_append,h,run_nil]
theorem run_one (a:By) (c:UInt8):runP ss st (a++[c])=stepP ss c (runP ss st a):=by rw[runP_append];rfl
theorem acc_nil (ss:List Ste):acceptsP ss []<0:=by unfold acceptsP;split<;>simp[accG]
def acR (ss:List Ste) (st:Nat) (l:By) (k:Nat):Int:=acceptsP ss (runP ss st (l.take k))
theorem bestP_last {ac:Nat→Int}:∀(n k:Nat) (b:Int×Int),(bestP ac n k b=b∧∀j,k≤j→j≤k+n→ac j<0)∨∃j,k≤j∧j≤k+n∧bestP ac n k b=((j:Int),ac j)∧0≤ac j∧∀j',j<j'→j'≤k+n→ac j'<0
 | 0,k,b=>by
  rw[bestP]
  by_cases h:0≤ac k
  · exact .inr ⟨k,Nat.le_refl _,Nat.le_refl _,if_pos h,h,fun j' h1 h2=>by omega⟩
  · exact .inl ⟨if_neg h, fun j h1 h2 => by obtain rfl : j = k := by omega
                                            omega⟩
 |n+1,k,b=>by
  rw[bestP]
  rcases bestP_last n (k+1) (if 0≤ac k then ((k:Int),ac k) else b) with ⟨h1,h2⟩|⟨j,h1,h2,h3,h4,h5⟩
  · by_cases h:0≤ac k
    · exact .inr ⟨k,Nat.le_refl _,by omega,by rw[h1,if_pos h],h,fun j' q1 q2=>h2 j' (by omega) (by omega)⟩
    · refine .inl ⟨by rw[h1,if_neg h],fun j q1 q2=>?_⟩
      rcases Nat.lt_or_ge k j with q|q
      · exact h2 j (by omega) (by omega)
      · obtain rfl:j=k:=by omega
        omega
  · exact .inr ⟨j,by omega,by omega,h3,h4,fun j' q1 q2=>h5 j' q1 (by omega)⟩
theorem match_last (h0:ss.length≠0) (l:By):(matchP ss st l=(0,-1)∧∀k,k≤l.length→acR ss st l k<0)∨∃k,k≤l.length∧matchP ss st l=((k:Int),acR ss st l k)∧0≤acR ss st l k∧∀k',k<k'→k'≤l.length→acR ss st l k'<0:=by
 have h:=matchG_best (ss:=ss) (st:=st) l [] (0,-1);have e:runP ss st []=startP ss st:=rfl;rw[e] at h;simp only[List.length_nil,List.nil_append] at h;unfold matchP;rw[if_neg h0,h]
 rcases bestP_last (ac:=fun k=>acceptsP ss (runP ss st (l.take k))) l.length 0 (0,-1) with ⟨h1,h2⟩|⟨j,h1,h2,h3,h4,h5⟩
 · exact .inl ⟨h1,fun k hk=>h2 k (Nat.zero_le _) (by omega)⟩
 · exact .inr ⟨j,by omega,h3,h4,fun k' q1 q2=>h5 k' q1 (by omega)⟩
theorem match_agree {H:List (List Nat×Nat)}(h0:ss.length≠0) (hr:chkReps ss tab reps=true) (ha:chkAll ss H reps=true) (hs:startP ss st∈H.map (·.1)) (hc:chkL ss H tab=true)
 (C:By) (c:UInt8) (B x:By) (d:UInt8) (y:By) (hcl:isLet c=true) (hB:∀b∈B,isNam b=true) (hd:isLet d=true) (hm:(matchP ss st (C++c::B++x)).1≤C.length):matchP ss st (C++c::B++d::y)=matchP ss st (C++c::B++x):=by
 obtain⟨A,hA⟩:∃A,A=C++c::B:=⟨_,rfl⟩
 have hAl:A.length=C.length+1+B.length:=by rw[hA,List.length_append,List.length_cons];omega
 rw[←hA] at hm ⊢
 have hsame:∀z w:By,∀k,k≤A.length→acR ss st (A++z) k=acR ss st (A++w) k:=fun z w k hk=>by
  unfold acR;rw[List.take_append_of_le_length hk,List.take_append_of_le_length hk]
 have hx:∀k,C.length<k→k≤(A++x).length→acR ss st (A++x) k<0:=by
  rcases match_last h0 (A++x) with ⟨_,h2⟩|⟨k0,h1,h2,h3,h4⟩
  · exact fun k _ hk=>h2 k hk
  · rw[h2] at hm;exact fun k q1 q2=>h4 k (by simp only at hm;omega) q2
 have hdead:∀k,A.length<k→runP ss st ((A++d::y).take k)=[]:=by
  have key:runP ss st (A++[d])=[]:=by
   have hin:=fold_in (chk_shut hr ha) C (startP ss st) (.inr hs)
   rcases hin with hT|hT
   · have hT:runP ss st C=[]:=hT;rw[hA,List.append_assoc];exact run_dead _ hT
   · have hT:runP ss st C∈H.map (·.1):=hT;have e1:runP ss st (C++[c])=stepP ss c (runP ss st C):=run_one C c
     rcases chkL_spec hr hc hT c hcl with q|q|q
     · rw[hA,show C++c::B++[d]=C++[c]++(B++[d]) by simp];exact run_dead _ (by rw[e1];exact q)
     · exfalso;have h1:=hx (C.length+1) (by omega) (by rw[List.length_append];omega)
       have h2:(A++x).take (C.length+1)=C++[c]:=by
        rw[hA,show C++c::B++x=C++[c]++(B++x) by simp,show C.length+1=(C++[c]).length by simp,List.take_left]
       unfold acR at h1;rw[h2,e1] at h1;omega
     · cases B with
       |nil =>
        rcases q d (by unfold isNam;rw[hd];rfl) with q|⟨_,q⟩
        · rw[hA,run_one,e1];exact q
        · rw[hd] at q;cases q
       |cons b B =>
        have e2:runP ss st (C++[c]++[b])=stepP ss b (stepP ss c (runP ss st C)):=by rw[run_one,e1]
        rcases q b (hB b (by simp)) with q|⟨q,_⟩
        · rw[hA,show C++c::b::B++[d]=C++[c]++[b]++(B++[d]) by simp];exact run_dead _ (by rw[e2];exact q)
        · exfalso;rw[List.length_cons] at hAl;have h1:=hx (C.length+2) (by omega) (by rw[List.length_append];omega)
          have h2:(A++x).take (C.length+2)=C++[c]++[b]:=by
           rw[hA,show C++c::b::B++x=C++[c]++[b]++(B++x) by simp,show C.length+2=(C++[c]++[b]).length by simp,List.take_left]
          unfold acR at h1;rw[h2,e2] at h1;omega
  intro k hk;rw[show A++d::y=A++[d]++y by simp,List.take_append,List.take_of_length_le (by rw[List.length_append,List.length_singleton];omega)];exact run_dead _ key
 have hy:∀k,A.length<k→acR ss st (A++d::y) k<0:=fun k hk=>by unfold acR;rw[hdead k hk];exact acc_nil ss
 rcases match_last h0 (A++x) with ⟨h1,h2⟩|⟨k0,h1,h2,h3,h4⟩
 · rcases match_last h0 (A++d::y) with ⟨g1,_⟩|⟨k1,g1,g2,g3,g4⟩
   · rw[h1,g1]
   · exfalso
     rcases Nat.lt_or_ge A.length k1 with q|q
     · have:=hy k1 q;omega
     · have:=h2 k1 (by rw[List.length_append];omega);rw[hsame x (d::y) k1 q] at this;omega
 · have hk0:k0≤C.length:=by rw[h2] at hm;simp only at hm;omega
   rcases match_last h0 (A++d::y) with ⟨_,g2⟩|⟨k1,g1,g2,g3,g4⟩
   · exfalso;have:=g2 k0 (by rw[List.length_append];omega);rw[hsame (d::y) x k0 (by omega)] at this;omega
   · have hk1:k1≤A.length:=Nat.not_lt.1 fun q=>by have:=hy k1 q;omega
     rcases Nat.lt_trichotomy k1 k0 with q|q|q
     · exfalso;have:=g4 k0 q (by rw[List.length_append];omega);rw[hsame (d::y) x k0 (by omega)] at this;omega
     · subst q;rw[h2,g2,hsame (d::y) x k1 hk1]
     · exfalso;have:=h4 k1 q (by rw[List.length_append];omega);rw[hsame x (d::y) k1 hk1] at this;omega
theorem ste_ne:ste0.length≠0∧ste1.length≠0∧ste2.length≠0:=by decide
theorem start_in:startP ste0 53∈ht0.map (·.1)∧startP ste1 10∈ht1.map (·.1)∧startP ste2 11∈ht2.map (·.1) :=
 ⟨List.mem_map.2 ⟨_,htOf_mem chkS0.1,rfl⟩,List.mem_map.2 ⟨_,htOf_mem chkS1.1,rfl⟩,List.mem_map.2 ⟨_,htOf_mem chkS2.1,rfl⟩⟩
theorem lexM_agree (m:Int) (C:By) (c:UInt8) (B x:By) (d:UInt8) (y:By) (hcl:isLet c=true) (hB:∀b∈B,isNam b=true) (hd:isLet d=true) (hm:(lexM m (C++c::B++x)).1≤C.length):lexM m (C++c::B++d::y)=lexM m (C++c::B++x):=by
 unfold lexM at hm ⊢;split
 · rename_i e;rw[if_pos e] at hm;exact match_agree ste_ne.1 chkR0 chkA0 start_in.1 chkL0 C c B x d y hcl hB hd hm
 · rename_i e;rw[if_neg e] at hm;split
   · rename_i e;rw[if_pos e] at hm;exact match_agree ste_ne.2.1 chkR1 chkA1 start_in.2.1 chkL1 C c B x d y hcl hB hd hm
   · rename_i e;rw[if_neg e] at hm;split
     · rename_i e;rw[if_pos e] at hm;exact match_agree ste_ne.2.2 chkR2 chkA2 start_in.2.2 chkL2 C c B x d y hcl hB hd hm
     · rfl
theorem let_low {c:UInt8}(h:isLet c=true):c.toNat<128:=by have:=of_decide_eq_true h;omega
theorem rune_agree (C:By) (c:UInt8) (r r':By) (hC:C≠[]) (hc:c.toNat<128):runeN (C++c::r)=runeN (C++c::r'):=by
 have h2:¬c.toNat / 64=2:=by omega
 match C,hC with
 | [a],_=>simp[runeN,Lib.decodeN,h2]
 | [a,b],_=>simp[runeN,Lib.decodeN,h2]
 | [a,b,e],_=>simp[runeN,Lib.decodeN,h2]
 |a::b::e::g::C',_ =>
  have h4:4≤(a::b::e::g::C').length:=by simp
  rw[rune_more h4,rune_more h4]
theorem one_agree2 {C:By}(hC:C≠[]) (c:UInt8) (B x:By) (d:UInt8) (y:By) (st:LSt) (hcl:isLet c=true) (hB:∀b∈B,isNam b=true) (hd:isLet d=true) (h:lenP (C++c::B++x) st.1≤C.length) :
 lenP (C++c::B++d::y) st.1=lenP (C++c::B++x) st.1∧kndP (C++c::B++d::y) st.1=kndP (C++c::B++x) st.1∧nxtP (C++c::B++d::y) st=nxtP (C++c::B++x) st:=by
 have hl:=lexM_len st.1 (C++c::B++x)
 have hle:(lexM st.1 (C++c::B++x)).1≤C.length:=by
  unfold lenP at h;split at h<;>omega
 have hm:=lexM_agree st.1 C c B x d y hcl hB hd hle;unfold lenP kndP nxtP;rw[hm]
 have hr:runeN (C++c::B++d::y)=runeN (C++c::B++x):=by
  rw[List.append_assoc,List.append_assoc];exact rune_agree C c _ _ hC (let_low hcl)
 rw[hr]
 have ht:∀n:Nat,n≤C.length→(C++c::B++d::y).take n=(C++c::B++x).take n:=fun n hn=>by
  rw[List.append_assoc,List.append_assoc,List.take_append_of_le_length hn,List.take_append_of_le_length hn]
 rw[ht _ (by omega)];exact⟨rfl,rfl,rfl⟩
theorem go_agree (c:UInt8) (B x:By) (d:UInt8) (y:By) (hcl:isLet c=true) (hB:∀b∈B,isNam b=true) (hd:isLet d=true):∀(j n n':Nat) (C:By) (a:Nat) (st:LSt),(C++c::B++x).length≤n→(C++c::B++d::y).length≤n'→j≤(allG n (C++c::B++x) a st).1.length→(goG j (C++c::B++x) a st).1≤a+C.length →
 goG j (C++c::B++d::y) a st=goG j (C++c::B++x) a st∧j≤(allG n' (C++c::B++d::y) a st).1.length∧(allG n' (C++c::B++d::y) a st).1.take j=(allG n (C++c::B++x) a st).1.take j
 | 0,n,n',C,a,st,_,_,_,_=>by simp[goG]
 |j+1,n,n',C,a,st,hn,hn',hj,hg=>by
  have h0:C++c::B++x≠[]:=by simp
  have h0y:C++c::B++d::y≠[]:=by simp
  have h1:=lenP_len h0 st.1;have e1:goG (j+1) (C++c::B++x) a st=goG j ((C++c::B++x).drop (lenP (C++c::B++x) st.1)) (a+lenP (C++c::B++x) st.1) (nxtP (C++c::B++x) st):=by rw[goG,if_neg h0]
  have hgg:=goG_ge j ((C++c::B++x).drop (lenP (C++c::B++x) st.1)) (a+lenP (C++c::B++x) st.1) (nxtP (C++c::B++x) st);rw[←e1] at hgg;have hlt:lenP (C++c::B++x) st.1≤C.length:=by omega
  have hC:C≠[]:=fun e=>by subst e;simp only[List.length_nil] at hlt;omega
  obtain⟨g1,g2,g3⟩:=one_agree2 hC c B x d y st hcl hB hd hlt;have e2:goG (j+1) (C++c::B++d::y) a st=goG j ((C++c::B++d::y).drop (lenP (C++c::B++d::y) st.1)) (a+lenP (C++c::B++d::y) st.1) (nxtP (C++c::B++d::y) st):=by rw[goG,if_neg h0y]
  have dx:∀z:By,(C++c::B++z).drop (lenP (C++c::B++x) st.1)=C.drop (lenP (C++c::B++x) st.1)++c::B++z:=fun z=>by
   rw[List.append_assoc C (c::B) z,List.drop_append_of_le_length hlt,←List.append_assoc]
  rw[allG_step h0 hn] at hj;rw[allG_step h0 hn,allG_step h0y hn',e1,e2,g1,g2,g3,dx,dx];rw[dx] at hj e1;generalize lenP (C++c::B++x) st.1=L at *;generalize nxtP (C++c::B++x) st=nx at *;have hdl:(C.drop L).length=C.length-L:=List.length_drop;simp only[List.length_append,List.length_cons] at hn hn';obtain⟨k1,k2,k3⟩:=go_agree c B x d y hcl hB hd j n n' (C.drop L) (a+L) nx (by simp only[List.length_append,List.length_cons];omega) (by simp only[List.length_append,List.length_cons];omega) (by simpa using hj) (by rw[e1] at hg;omega);refine⟨k1,by simpa using k2,?_⟩;simp only[List.take_succ_cons];rw[k3]
theorem in_ht (w:By):runP ste0 53 w=[]∨runP ste0 53 w∈ht0.map (·.1):=fold_in (chk_shut chkR0 chkA0) w _ (.inr start_in.1)
theorem name_bytes (l:By):∀n,n≤l.length→runP ste0 53 (l.take n)=nameL→1≤n∧(∀i,i<n→∃b,l[i]? =some b∧isNam b=true)∧∃b,l[0]? =some b∧isLet b=true
 | 0,_,h=>absurd h start_ne.1
 |n+1,hn,h=>by
  obtain⟨b,hb⟩:∃b,l[n]? =some b:=⟨_,List.getElem?_eq_getElem (show n<l.length by omega)⟩
  have ht:l.take (n+1)=l.take n++[b]:=by rw[List.take_add_one,hb];rfl
  rw[ht,run_one] at h
  rcases in_ht (l.take n) with q|q
  · rw[q,stepP_nil] at h;cases h
  · obtain⟨p,hp,hpe⟩:=List.mem_map.1 q;have h1:=List.all_eq_true.1 chkA p hp;rw[Bool.and_eq_true] at h1;have h2:=List.all_eq_true.1 h1.2 b.toNat (List.mem_range.2 b.toNat_lt);rw[of_nat,←step_tab chkR0 b,hpe] at h2;simp only[h,decide_true,Bool.not_true,Bool.false_or,Bool.or_eq_true,Bool.and_eq_true,decide_eq_true_eq] at h2
    rcases h2 with ⟨h2,h3⟩|⟨h2,h3⟩
    · obtain⟨i1,i2,i3⟩:=name_bytes l n (by omega) h2;refine⟨by omega,fun i hi=>?_,i3⟩
      rcases Nat.lt_or_ge i n with q|q
      · exact i2 i q
      · obtain rfl:i=n:=by omega
        exact⟨b,hb,h3⟩
    · have hn0:n=0:=by
       cases n with
       |zero=>rfl
       |succ m =>
        exfalso;obtain⟨e,he⟩:∃e,l[m]? =some e:=⟨_,List.getElem?_eq_getElem (show m<l.length by omega)⟩
        have ht2:l.take (m+1)=l.take m++[e]:=by rw[List.take_add_one,he];rfl
        rw[ht2,run_one] at h2
        rcases in_ht (l.take m) with q|q
        · rw[q,stepP_nil] at h2;exact start_ne.2 h2.symm
        · obtain⟨p,hp,hpe⟩:=List.mem_map.1 q;have g1:=List.all_eq_true.1 (List.all_eq_true.1 chkZ p hp) e.toNat (List.mem_range.2 e.toNat_lt);rw[←step_tab chkR0 e,hpe] at g1;simp only[h2,decide_true,Bool.not_true] at g1;cases g1
      subst hn0
      exact ⟨Nat.le_refl _, fun i hi => by obtain rfl : i = 0 := by omega
                                           exact⟨b,hb,by unfold isNam;rw[h3];rfl⟩,b,hb,h3⟩
theorem acc_two {w:By}(h:acceptsP ste0 (runP ste0 53 w)=2):runP ste0 53 w=nameL:=by
 rcases in_ht w with q|q
 · rw[q] at h;have:=acc_nil ste0;omega
 · obtain⟨p,hp,hpe⟩:=List.mem_map.1 q;have h1:=List.all_eq_true.1 chkA p hp;rw[Bool.and_eq_true,hpe,Bool.or_eq_true] at h1
   rcases h1.1 with k|k
   · exact absurd h (of_decide_eq_true k)
   · exact of_decide_eq_true k
theorem knd_name {m:Int}(h:kndP l m=3∨kndP l m=4):m=0∧0<(lexM 0 l).1∧(lexM 0 l).2=2:=by
 have hl:=lexM_len m l
 have hk:∀m n:Int,kindP m n=3→m=0∧n=2:=by
  intro m n h;unfold kindP findT at h;split at h
  · rename_i p hp;split at hp
    · cases hp
    · rename_i hn;obtain⟨k,rfl⟩:∃k:Nat,n=k:=⟨n.toNat,by omega⟩
      rw[Int.toNat_natCast] at hp;unfold kindT at hp;split at hp
      · rename_i hm;refine⟨hm,?_⟩
        match k,hp with
        | 0,hp=>cases hp;cases h
        | 1,hp=>cases hp;cases h
        | 2,hp=>rfl
        | 3,hp=>cases hp;cases h
        | 4,hp=>cases hp;cases h
        | 5,hp=>cases hp;cases h
        | 6,hp=>cases hp;cases h
        | 7,hp=>cases hp;cases h
        | 8,hp=>cases hp;cases h
        | 9,hp=>cases hp;cases h
        |k+10,hp=>simp at hp
      · split at hp
        · match k,hp with
          | 0,hp=>cases hp;cases h
          | 1,hp=>cases hp;cases h
          | 2,hp=>cases hp;cases h
          | 3,hp=>cases hp;cases h
          |k+4,hp=>simp at hp
        · split at hp
          · match k,hp with
            | 0,hp=>cases hp;cases h
            | 1,hp=>cases hp;cases h
            | 2,hp=>cases hp;cases h
            | 3,hp=>cases hp;cases h
            |k+4,hp=>simp at hp
          · simp at hp
  · cases h
 unfold kndP at h;split at h
 · rcases h with h|h<;>cases h
 · rename_i h0
   have h3:kindP m (lexM m l).2=3:=by
    split at h
    · rename_i q;exact q.1
    · rcases h with h|h
      · exact h
      · exfalso
        have:kindP m (lexM m l).2≠4:=by
         intro e;unfold kindP findT at e;split at e
         · rename_i p hp;split at hp
           · cases hp
           · have:p∈kindT m:=List.mem_of_getElem? hp;unfold kindT at this;split at this
             · simp only[List.mem_cons,List.not_mem_nil,or_false] at this
               rcases this with rfl|rfl|rfl|rfl|rfl|rfl|rfl|rfl|rfl|rfl<;>cases e
             · split at this
               · simp only[List.mem_cons,List.not_mem_nil,or_false] at this
                 rcases this with rfl|rfl|rfl|rfl<;>cases e
               · split at this
                 · simp only[List.mem_cons,List.not_mem_nil,or_false] at this
                   rcases this with rfl|rfl|rfl|rfl<;>cases e
                 · cases this
         · cases e
        exact this h
   obtain⟨rfl,h2⟩:=hk _ _ h3;exact⟨rfl,by omega,h2⟩
theorem lex_name (h0:0<(lexM 0 l).1) (h2:(lexM 0 l).2=2):∃n:Nat,(lexM 0 l).1=n∧1≤n∧n≤l.length∧(∀i,i<n→∃b,l[i]? =some b∧isNam b=true)∧∃b,l[0]? =some b∧isLet b=true:=by
 have e:lexM 0 l=matchP ste0 53 l:=if_pos rfl;rw[e] at h0 h2 ⊢
 rcases match_last (st:=53) ste_ne.1 l with ⟨h1,_⟩|⟨k,h1,g2,g3,g4⟩
 · rw[h1] at h0;exact absurd h0 (by decide)
 · rw[g2] at h2;have:=name_bytes l k h1 (acc_two h2);exact⟨k,by rw[g2],this.1,h1,this.2.1,this.2.2⟩
theorem name_run {N:Nat}(hN:1≤N) (hl:N≤l.length) (h1:∀i,i<N→∃b,l[i]? =some b∧isNam b=true) (h0:∃b,l[0]? =some b∧isLet b=true):(N:Int)≤(lexM 0 l).1∧(lexM 0 l).2=2:=by
 have run:∀n,1≤n→n≤N→runP ste0 53 (l.take n)=nameL:=by
  intro n hn1 hn2
  induction n with
  |zero=>omega
  |succ n ih =>
   obtain⟨b,hb,hbn⟩:=h1 n (by omega);have ht:l.take (n+1)=l.take n++[b]:=by rw[List.take_add_one,hb];rfl
   rw[ht,run_one];cases n with
   |zero =>
    obtain⟨b',hb',hbl⟩:=h0;rw[hb] at hb';cases hb';have h2:=List.all_eq_true.1 chkS b.toNat (List.mem_range.2 b.toNat_lt);rw[of_nat,hbl,←step_tab chkR0 b] at h2
    show stepP ste0 b (startP ste0 53)=nameL
    simpa using h2
   |succ m =>
    rw[ih (by omega) (by omega)];have h2:=List.all_eq_true.1 chkN b.toNat (List.mem_range.2 b.toNat_lt);rw[of_nat,←step_tab chkR0 b,if_pos hbn] at h2;exact of_decide_eq_true h2
 have after:∀(w:By) (T:List Nat),(T=[]∨T=nameL)→(w.foldl (fun T c=>stepP ste0 c T) T=[]∨w.foldl (fun T c=>stepP ste0 c T) T=nameL):=by
  intro w
  induction w with
  |nil=>exact fun T h=>h
  |cons c w ih =>
   intro T h;rw[List.foldl_cons];refine ih _ ?_
   rcases h with rfl|rfl
   · exact .inl (stepP_nil _ _)
   · have h2:=List.all_eq_true.1 chkN c.toNat (List.mem_range.2 c.toNat_lt);rw[of_nat,←step_tab chkR0 c] at h2;split at h2
     · exact .inr (of_decide_eq_true h2)
     · exact .inl (List.isEmpty_iff.1 h2)
 have e:lexM 0 l=matchP ste0 53 l:=if_pos rfl;rw[e];have hac:acR ste0 53 l N=2:=by unfold acR;rw[run N hN (Nat.le_refl _),name_acc]
 rcases match_last (st:=53) ste_ne.1 l with ⟨_,g2⟩|⟨k,g1,g2,g3,g4⟩
 · have:=g2 N hl;omega
 · have hk:N≤k:=Nat.not_lt.1 fun q=>by have:=g4 N q hl;omega
   rw[g2];refine⟨by simp only;omega,?_⟩
   show acR ste0 53 l k=2
   unfold acR at g3 ⊢
   have ht:l.take k=l.take N++(l.take k).drop N:=by
    have e2:=List.take_append_drop N (l.take k);rw[List.take_take,Nat.min_eq_left hk] at e2;exact e2.symm
   rw[ht,runP_append,run N hN (Nat.le_refl _)] at g3 ⊢
   rcases after ((l.take k).drop N) nameL (.inr rfl) with q|q
   · rw[q] at g3;have:=acc_nil ste0;omega
   · rw[q];exact name_acc
theorem low_let {b:UInt8}(h:isLow b=true):isLet b=true:=by
 have:=of_decide_eq_true h;exact decide_eq_true (.inl this)
theorem low_nam {b:UInt8}(h:isLow b=true):isNam b=true:=by unfold isNam;rw[low_let h];rfl
theorem not_end (hj:j≤(allP s).1.length) (h:(goG j s 0 (0,0)).1<s.length):j<(allP s).1.length:=by
 rcases Nat.lt_or_ge j (allP s).1.length with k|k
 · exact k
 · exfalso;obtain⟨e,_⟩:=go_all j s.length s 0 (0,0) (Nat.le_refl _) hj;have e1:=congrArg (fun z=>z.1.length) e;simp only[List.length_append,List.length_take] at e1;have hne:s.drop ((goG j s 0 (0,0)).1-0)≠[]:=fun q=>by have:=congrArg List.length q;rw[List.length_drop] at this;simp at this;omega
   rw[allG_step hne (by rw[List.length_drop];omega)] at e1;simp only[List.length_cons] at e1;have k':(allG s.length s 0 (0,0)).1.length≤j:=k;omega
theorem tok_end {q:Nat}{u:Tk}(hj:j≤(allP s).1.length) (hq:q<j) (hu:(allP s).1[q]? =some u):u.2.2≤((goG j s 0 (0,0)).1:Int):=by
 obtain⟨h1,h2,h3,h4,h5⟩:=tok_at q s.length s 0 (0,0) (Nat.le_refl _) (show q<(allP s).1.length by omega);have h2:(allP s).1[q]? =_:=h2;rw[hu] at h2;have h2:=Option.some.inj h2
 have hmono:∀a b,a≤b→b≤(allP s).1.length→(goG a s 0 (0,0)).1≤(goG b s 0 (0,0)).1:=by
  intro a b hab hb
  induction b with
  | zero => obtain rfl : a = 0 := by omega
            exact Nat.le_refl _
  |succ b ih =>
   rcases Nat.lt_or_ge a (b+1) with k|k
   · have h6:=ih (by omega) (by omega);have h7:=tok_at b s.length s 0 (0,0) (Nat.le_refl _) (show b<(allP s).1.length by omega);have:=h7.2.2.2.1;omega
   · obtain rfl:a=b+1:=by omega
     exact Nat.le_refl _
 have:=hmono (q+1) j hq hj;rw[h2];simp only;rw[←h4];omega
theorem grow_tok {t:Tk}(ht:(allP s).1[j]? =some t) (hk:t.1=3∨t.1=4){f k:Nat}(hf:t.2.1=f) (hfk:f<k) (hkt:(k:Int)≤t.2.2) (hks:k≤s.length){more:By}(hm:∀b∈more,isLow b=true) :
 ∃u,(allP (s.take k++more++s.drop k)).1[j]? =some u∧(u.1=3∨u.1=4)∧u.2.1=f∧((k+more.length:Nat):Int)≤u.2.2∧u.2.2≤(s.take k++more++s.drop k).length∧∀q v,q<j→(allP (s.take k++more++s.drop k)).1[q]? =some v→v.2.2≤f:=by
 have hjl:j<(allP s).1.length:=(List.getElem?_eq_some_iff.1 ht).1;obtain⟨h1,h2,_,_,_⟩:=tok_at j s.length s 0 (0,0) (Nat.le_refl _) hjl;have h2:(allP s).1[j]? =_:=h2;rw[ht] at h2;have h2:=Option.some.inj h2;rw[Nat.sub_zero] at h2;obtain⟨g,hg⟩:∃g,g=goG j s 0 (0,0):=⟨_,rfl⟩
 rw[←hg] at h1 h2;have hgf:g.1=f:=by rw[h2] at hf;exact Int.ofNat.inj hf
 have hkn:kndP (s.drop f) g.2.1=3∨kndP (s.drop f) g.2.1=4:=by rw[h2,hgf] at hk;exact hk
 obtain⟨hm0,hl1,hl2⟩:=knd_name hkn;obtain⟨n,hn,hn1,hn2,hnb,hn0⟩:=lex_name hl1 hl2;have hlen:lenP (s.drop f) g.2.1=n:=by unfold lenP;rw[hm0,if_neg (by omega),hn];rfl
 have hfn:k≤f+n:=by rw[h2,hgf,hlen] at hkt;simp only at hkt;omega
 by_cases hmo:more=[]
 · subst hmo;rw[List.append_nil,List.take_append_drop];refine⟨t,ht,hk,hf,by simpa using hkt,?_,fun q v hq hv=>?_⟩
   · rw[h2];have:=lenP_len (l:=s.drop g.1) (fun e=>by have:=congrArg List.length e;rw[List.length_drop] at this;simp at this;omega) g.2.1;rw[List.length_drop] at this;simp only;omega
   · have:=tok_end (Nat.le_of_lt hjl) hq hv;rw[←hg,hgf] at this;exact this
 · obtain⟨d,y0,hy0⟩:∃d y0,more=d::y0:=by cases more with|nil=>exact absurd rfl hmo|cons d y0=>exact⟨d,y0,rfl⟩
   obtain⟨c,hc,hcl⟩:=hn0;rw[List.getElem?_drop,Nat.add_zero] at hc;obtain⟨C,hC⟩:∃C,C=s.take f:=⟨_,rfl⟩
   obtain⟨B,hB⟩:∃B,B=(s.take k).drop (f+1):=⟨_,rfl⟩
   have hCl:C.length=f:=by rw[hC,List.length_take];omega
   have hBl:B.length=k-(f+1):=by rw[hB,List.length_drop,List.length_take];omega
   have htk:s.take k=C++c::B:=by
    have e2:=List.take_append_drop f (s.take k);rw[List.take_take,Nat.min_eq_left (by omega)] at e2;have hfk2:f<(s.take k).length:=by rw[List.length_take];omega
    have e3:(s.take k)[f]? =some c:=by rw[List.getElem?_take_of_lt hfk];exact hc
    rw[List.drop_eq_getElem_cons hfk2,←hC,←hB] at e2;rw[List.getElem?_eq_getElem hfk2] at e3;rw[←Option.some.inj e3];exact e2.symm
   have hBn:∀b∈B,isNam b=true:=by
    intro b hb;obtain⟨i,hi⟩:=List.getElem?_of_mem hb;have hil:=(List.getElem?_eq_some_iff.1 hi).1;rw[hB,List.getElem?_drop,List.getElem?_take_of_lt (by omega)] at hi;obtain⟨b',hb',hbn⟩:=hnb (1+i) (by omega);rw[List.getElem?_drop,←Nat.add_assoc,hi] at hb';cases hb';exact hbn
   have hdl:isLet d=true:=low_let (hm d (by rw[hy0];simp));have hs:s=C++c::B++s.drop k:=by rw[←htk,List.take_append_drop]
   have hs':s.take k++more++s.drop k=C++c::B++d::(y0++s.drop k):=by rw[htk,hy0];simp
   rw[hs'];obtain⟨s',hse⟩:∃s',s'=C++c::B++d::(y0++s.drop k):=⟨_,rfl⟩
   have hag:=go_agree c B (s.drop k) d (y0++s.drop k) hcl hBn hdl j s.length s'.length C 0 (0,0) (by rw[←hs];exact Nat.le_refl _) (by rw[hse];exact Nat.le_refl _) (by rw[←hs];exact Nat.le_of_lt hjl) (by rw[←hs,←hg,hgf,hCl];omega);rw[←hse,←hs] at hag;rw[←hse];obtain⟨a1,a2,a3⟩:=hag;have hsl:s'.length=s.length+more.length:=by rw[hse,←hs'];simp only[List.length_append,List.length_take,List.length_drop];omega
   have hjl':j<(allP s').1.length:=not_end a2 (by rw[a1,←hg,hgf];omega);obtain⟨b1,b2,_,_,_⟩:=tok_at j s'.length s' 0 (0,0) (Nat.le_refl _) hjl';rw[a1,←hg,Nat.sub_zero,hgf,hm0] at b2
   have hd':s'.drop f=c::B++more++s.drop k:=by
    rw[hse,List.append_assoc C,←hCl,List.drop_left,hy0];simp
   have hrun:=name_run (l:=s'.drop f) (N:=k-f+more.length) (by omega) (by rw[List.length_drop];omega) (fun i hi=>by
    rw[hd'];have hL:(c::B++more).length=k-f+more.length:=by simp only[List.length_append,List.length_cons];omega
    obtain⟨b,hb⟩:∃b,(c::B++more)[i]? =some b:=⟨_,List.getElem?_eq_getElem (by omega)⟩
    refine⟨b,by rw[List.getElem?_append_left (by omega)];exact hb,?_⟩;have hmem:=List.mem_of_getElem? hb
    rcases List.mem_append.1 hmem with q|q
    · rcases List.mem_cons.1 q with rfl|q
      · unfold isNam;rw[hcl];rfl
      · exact hBn b q
    · exact low_nam (hm b q)) ⟨c,by rw[hd'];rfl,hcl⟩
   have hll:=lexM_len 0 (s'.drop f);rw[List.length_drop] at hll;have hlp:(lenP (s'.drop f) 0:Int)=(lexM 0 (s'.drop f)).1:=by unfold lenP;rw[if_neg (by omega)];omega
   refine⟨_,b2,?_,rfl,?_,?_,fun q v hq hv=>?_⟩
   · show kndP (s'.drop f) 0=3∨kndP (s'.drop f) 0=4
     unfold kndP;rw[if_neg (by omega),hrun.2];split
     · exact .inr rfl
     · exact .inl rfl
   · simp only;omega
   · simp only;omega
   · have:=tok_end (Nat.le_of_lt hjl') hq hv;rw[a1,←hg,hgf] at this;exact this
theorem find_at {α:Type}{p:α→Bool}:∀{l:List α}{x:α},l.find? p=some x→∃j:Nat,l[j]? =some x∧∀(q:Nat) (v:α),q<j→l[q]? =some v→p v=false
 | [],x,h=>by cases h
 |a::l,x,h=>by
  rw[List.find?_cons] at h;split at h
  · cases h;exact⟨0,rfl,fun q v hq=>by omega⟩
  · rename_i ha;obtain⟨j,h1,h2⟩:=find_at h;refine⟨j+1,h1,fun q v hq hv=>?_⟩;cases q with
    |zero=>cases hv;exact ha
    |succ q=>exact h2 q v (by omega) hv
theorem find_of {α:Type}{p:α→Bool}:∀{l:List α}{j:Nat}{x:α},l[j]? =some x→p x=true→(∀(q:Nat) (v:α),q<j→l[q]? =some v→p v=false)→l.find? p=some x
 | [],j,x,h,_,_=>by simp at h
 |a::l,0,x,h,hp,_=>by cases h;rw[List.find?_cons,hp]
 |a::l,j+1,x,h,hp,hn=>by
  rw[List.find?_cons,hn 0 a (by omega) rfl];exact find_of (j:=j) h hp (fun q v hq hv=>hn (q+1) v (by omega) hv)
theorem words_low:∀x∈wordsC,∀b∈x,isLow b=true:=by decide
theorem words_len:∀x∈wordsC,x.length≤5:=by decide
structure Grown (s:By) (k:Nat) (good:List By) (f:Nat) (more:By) (li:List By):Prop where
 of:ofC s (allP s).1 k good=((f:Int),li)
 ne:li≠[]
 lt:f<k
 ap:applyC s (allP s).1 k good=(s.take k++more++s.drop k,((k+more.length:Nat):Int))
 up:Rising li
 pre:∀x∈li,partC s f k++more <+: x
 len:∀x∈li,x.length≤100
 com:comC li=partC s f k++more
 of2:ofC (s.take k++more++s.drop k) (allP (s.take k++more++s.drop k)).1 ((k+more.length:Nat):Int) good=((f:Int),li)
 ap2:applyC (s.take k++more++s.drop k) (allP (s.take k++more++s.drop k)).1 ((k+more.length:Nat):Int) good=(s.take k++more++s.drop k,((k+more.length:Nat):Int))
theorem grow_law {k:Nat}{good:List By}(hk:k≤s.length) (hs:s.length≤100) (hg:∀x∈good,x.length≤100∧∀b∈x,isLow b=true) (hne:(ofC s (allP s).1 k good).2≠[]) :
 ∃(f:Nat) (more:By) (li:List By),Grown s k good f more li:=by
 have hO:ofC s (allP s).1 k good=match (allP s).1.find? (nameT k s.length) with|none=>(0,[])|some t=>(t.2.1,listC (partC s t.2.1.toNat (k:Int).toNat) good):=by
  unfold ofC;rw[if_neg (by omega)];generalize (allP s).1.find? (nameT k s.length)=o;cases o<;>rfl
 cases hf:(allP s).1.find? (nameT k s.length) with
 |none=>rw[hO,hf] at hne;exact absurd rfl hne
 |some t =>
  rw[hf] at hO;have hO:ofC s (allP s).1 k good=(t.2.1,listC (partC s t.2.1.toNat (k:Int).toNat) good):=hO;have hnt:nameT k s.length t=true:=List.find?_some hf;have hnt:(t.1=3∨t.1=4)∧0≤t.2.1∧t.2.1<k∧(k:Int)≤t.2.2∧t.2.2≤s.length:=of_decide_eq_true hnt;obtain⟨f,hff⟩:∃f:Nat,t.2.1=f:=⟨t.2.1.toNat,by omega⟩
  rw[hff,Int.toNat_natCast,Int.toNat_natCast] at hO;obtain⟨li,hli⟩:∃li,li=listC (partC s f k) good:=⟨_,rfl⟩
  rw[←hli] at hO;have hlne:li≠[]:=by rw[hO] at hne;exact hne
  have hfk:f<k:=by omega
  have hmem:∀x∈li,(x∈good∨x∈wordsC)∧partC s f k <+: x:=fun x hx=>by
   rw[hli] at hx;have:=(list_mem _ _ _).1 hx;exact⟨this.1,preB_iff.1 this.2⟩
  have hx100:∀x∈li,x.length≤100∧∀b∈x,isLow b=true:=fun x hx=>by
   rcases (hmem x hx).1 with q|q
   · exact hg x q
   · exact⟨Nat.le_trans (words_len x q) (by decide),words_low x q⟩
  obtain⟨more,hmo⟩:∃more,partC s f k++more=comC li:=(com_pre hlne _).2 fun x hx=>(hmem x hx).2
  have hpl:=part_len (s:=s) (i:=f) (j:=k) (by omega) hk;have hcp:∀x∈li,comC li <+: x:=(com_pre hlne _).1 (List.prefix_refl _);obtain⟨x0,hx0⟩:∃x0,x0∈li:=by cases li with|nil=>exact absurd rfl hlne|cons a l=>exact⟨a,by simp⟩
  have hcl:(comC li).length=k-f+more.length:=by rw[←hmo,List.length_append,hpl]
  have hc100:(comC li).length≤100:=Nat.le_trans (hcp x0 hx0).length_le (hx100 x0 hx0).1;have hmlow:∀b∈more,isLow b=true:=fun b hb=>(hx100 x0 hx0).2 b ((hcp x0 hx0).subset (by rw[←hmo];exact List.mem_append.2 (.inr hb)))
  have hdr:(comC li).drop ((k:Int)-(f:Nat)).toNat=more:=by
   rw[←hmo,show ((k:Int)-(f:Nat)).toNat=(partC s f k).length by rw[hpl];omega,List.drop_left]
  have hap:applyC s (allP s).1 k good=(s.take k++more++s.drop k,((k+more.length:Nat):Int)):=by
   unfold applyC;rw[hO];simp only;rw[if_neg hlne,hdr,if_neg (by omega),Int.toNat_natCast];rfl
  obtain⟨j,hj,hjn⟩:=find_at hf;obtain⟨u,u1,u2,u3,u4,u5,u6⟩:=grow_tok hj hnt.1 hff hfk hnt.2.2.2.1 hk hmlow;obtain⟨t',ht'⟩:∃t',t'=s.take k++more++s.drop k:=⟨_,rfl⟩
  rw[←ht'] at u1 u5 u6 hap;have htl:t'.length=s.length+more.length:=by rw[ht'];simp only[List.length_append,List.length_take,List.length_drop];omega
  have hpt:partC t' f (k+more.length)=partC s f k++more:=by
   unfold partC
   have e1:t'.take (k+more.length)=s.take k++more:=by
    rw[ht',List.take_append_of_le_length (by rw[List.length_append,List.length_take];omega),List.take_of_length_le (by rw[List.length_append,List.length_take];omega)]
   rw[e1,List.drop_append_of_le_length (by rw[List.length_take];omega)]
  have hf2:(allP t').1.find? (nameT ((k+more.length:Nat):Int) t'.length)=some u:=find_of u1 (decide_eq_true ⟨u2,by omega,by omega,u4,u5⟩) (fun q v hq hv=>by
   have:=u6 q v hq hv;exact decide_eq_false (fun z=>by have:=z.2.2.2.1;omega))
  have hl2:listC (partC s f k++more) good=li:=by
   rw[hli];refine rising_eq (list_rising _ _) (list_rising _ _) fun x=>?_
   rw[list_mem,list_mem,preB_iff,preB_iff];constructor
   · rintro⟨h1,h2⟩;exact⟨h1,(List.prefix_append _ _).trans h2⟩
   · rintro⟨h1,h2⟩;have hx:x∈li:=by rw[hli];exact(list_mem _ _ _).2 ⟨h1,preB_iff.2 h2⟩
     exact⟨h1,by rw[hmo];exact hcp x hx⟩
  have hO2:ofC t' (allP t').1 ((k+more.length:Nat):Int) good=((f:Int),li):=by
   unfold ofC;rw[if_neg (by omega),hf2]
   show (u.2.1,listC (partC t' u.2.1.toNat ((k+more.length:Nat):Int).toNat) good)=_
   rw[u3,Int.toNat_natCast,Int.toNat_natCast,hpt,hl2]
  have hdr2:(comC li).drop (((k+more.length:Nat):Int)-(f:Nat)).toNat=[]:=List.drop_of_length_le (by omega)
  have hap2:applyC t' (allP t').1 ((k+more.length:Nat):Int) good=(t',((k+more.length:Nat):Int)):=by
   unfold applyC;rw[hO2];simp only;rw[if_neg hlne,hdr2,if_neg (by simp only[List.length_nil];omega),Int.toNat_natCast,List.append_nil,List.take_append_drop];simp
  refine⟨f,more,li,⟨hO,hlne,hfk,by rw[←ht'];exact hap,by rw[hli];exact list_rising _ _,fun x hx=>by rw[hmo];exact hcp x hx,fun x hx=>(hx100 x hx).1,hmo.symm,by rw[←ht'];exact hO2,by rw[←ht'];exact hap2⟩⟩
end
end Go.Proofs.YtfegacfjgjaghaaGreatDoor
namespace Go.Proofs.YtfegacfjgjaghaaGreatDoor
open Go Go.Lw
set_option maxRecDepth 20000
def lowP (x:By):Bool:=decide (x≠[]) && x.all isLow
theorem low_take {x:By}{i:Nat}{b:UInt8}(h:x[i]? =some b):(x.take (i+1)).all isLow=((x.take i).all isLow && isLow b):=by
 rw[List.take_add_one,h,List.all_append];simp
theorem low_iff (b:UInt8):isLow b=true↔97≤b.toNat∧b.toNat≤122:=by unfold isLow;exact decide_eq_true_iff
set_option maxHeartbeats 1000000 in
theorem completeGrows_calls {h:Heap}(hg:ComG h) (s:By){w:Value}{names:List By}(hw:SlR eBy h (fun _=>False) w names) (a:Nat) (ha:a<256) :
 CallsH Tryz.prog 5 #[.string (bs s),w,.int .u8 (a:Nat)] h (Ret fun r h'=>r= .bool true∧Ext0 h h'):=by
 have hz:=bs_size s;have hgr:=great_calls hw;obtain⟨wa,wn,wc,rfl,hws⟩:=id hw.open;have hwl:names.length=wn:=hws.len;subst hwl;have hwc:=hws.le;have hwm:=hws.cap;simp only[maxLen] at hwm;obtain⟨lim,hlim,hsg⟩:=hg.lx.sg;refine CallsH.of Tryz.func5 rfl rfl ?_;refine xrd Tryz.func5 1 [0,1,2,6] rfl ?_;refine G.seq rfl ?_;refine G.seq rfl ?_;refine G.regTo1 [(33,.bool (decide (100<s.length) ||greatB names))] [(0,_),(1,_),(2,_),(6,_)] ⟨rfl,rfl,rfl,rfl,trivial⟩ Tryz.func5 rfl ?_ ?_
 · refine xqp 1 rfl rfl (OpP.lenString Tryz.underlying9 rfl) ?_;refine xqm 2 rfl ?_;refine RW.split (d:=30) rfl (fun c=>?_) (fun c=>?_)
   · have c:=of_decide_eq_true c;refine xqm 3 rfl ?_;refine RW.done rfl ?_;exact⟨rfl,at_bool rfl (by rw[decide_eq_true (show 100<s.length by omega)];rfl),rfl,rfl,rfl,rfl,trivial⟩
   · have c:=of_decide_eq_false c;refine xqm 1 rfl ?_;refine xo rfl (OpX.call (vs:=[_]) Tryz.func6 rfl H.nm6 rfl (CallsH.toX (hgr))) ?_;rintro _ h ⟨rfl,rfl⟩;refine xqm 1 rfl ?_;refine RW.done rfl ?_;exact⟨rfl,at_bool rfl (by rw[decide_eq_false (show ¬100<s.length by omega)];rfl),rfl,rfl,rfl,rfl,trivial⟩
 · refine G.cond rfl rfl (fun hgt=>?_) (fun hgt=>?_)
   · refine xr Tryz.func5 rfl ?_;refine xo rfl (OpX.call (vs:=[]) Tryz.func7 rfl H.nm7 rfl (CallsH.toX (completed_calls hg))) ?_;rintro _ h1 ⟨rfl,e1⟩;refine xqd 1 [0,1,2,6,33] rfl ?_;refine G.ret Tryz.func5 rfl rfl ?_;exact⟨_,rfl,rfl,e1⟩
   · have hgt:(decide (100<s.length) ||greatB names)=false:=by simpa using hgt
     rw[Bool.or_eq_false_iff] at hgt;have hsl:=of_decide_eq_false hgt.1;obtain⟨hnl,hn⟩:=great_not hgt.2;refine G.skip rfl ?_;refine xrd Tryz.func5 1 [0,1,2,6,7,33] rfl ?_;refine G.seq rfl ?_;refine xrd Tryz.func5 1 [0,1,2,6,7,8,33] rfl ?_;refine G.block rfl rfl ?_;refine G.loop (σ:=Nat×Value) (fun q=>[(0,.string (bs s)),(1,.slice wa names.length wc),(2,.int .u8 (a:Nat)),(7,q.2),(8,.int .i64 (q.1:Nat))]) (fun q h'=>q.1≤names.length∧OwE encT h' h.size 9 q.2 ((names.take q.1).filter lowP)∧Ext0 h h') (fun q=>names.length-q.1) ((0,.slice none 0 0)) rfl ⟨rfl,rfl,rfl,rfl,rfl,trivial⟩ ⟨Nat.zero_le _,OwE.nil _ _ _ _,Ext.refl _ _⟩ ?_;rintro⟨i,va⟩ g ⟨hi,ho,eg⟩ ih
     try dsimp only
     dsimp only at hi ho;have zg:=eg.size;have hfl:((names.take i).filter lowP).length≤names.length:=Nat.le_trans (List.length_filter_le _ _) (by rw[List.length_take];omega);refine G.seq rfl ?_;refine xra Tryz.func5 2 rfl ?_;refine xp rfl (OpP.lenSlice Tryz.underlying22 rfl) ?_;refine xqd 1 [0,1,2,7,8,38] rfl ?_;refine G.ite rfl rfl (fun hlt=>?_) (fun hlt=>?_)
     · have hlt':i<names.length:=by omega
       obtain⟨b,o,x,hxa,_,hx,hc⟩:=(hws.mv (Mv.ext0 eg)).at hlt';have hzx:=bs_size x;have hft:=filter_take (p:=lowP) hx;have hxl:=hnl x (List.mem_of_getElem? hx);refine G.skip rfl ?_;refine G.seq rfl ?_;refine G.block rfl rfl ?_;refine xra Tryz.func5 2 rfl ?_;refine xp rfl (OpP.indexSlice Tryz.underlying22 H.sz9 rfl rfl i rfl hxa (by omega)) ?_;refine xp rfl (OpP.load H.ag9 rfl hc) ?_;refine xp rfl (OpP.lenString Tryz.underlying9 rfl) ?_;refine xqd 2 [0,1,2,7,8,9,38] rfl ?_;refine G.seq rfl ?_;refine xrd Tryz.func5 1 [0,1,2,7,8,9,10,38] rfl ?_;refine G.block rfl rfl ?_;refine G.loop (σ:=Nat×Bool) (fun q=>[(0,.string (bs s)),(1,.slice wa names.length wc),(2,.int .u8 (a:Nat)),(7,va),(8,.int .i64 (i:Nat)),(9,.bool q.2),(10,.int .i64 (q.1:Nat))]) (fun q h'=>h'=g∧q.1≤x.length∧q.2=(decide (x≠[]) && (x.take q.1).all isLow)) (fun q=>x.length-q.1) ((0,decide ((0:Int)<(bs x).size))) rfl ⟨rfl,rfl,rfl,rfl,rfl,rfl,rfl,trivial⟩ ⟨rfl,Nat.zero_le _,by simp[hzx,List.length_pos_iff]⟩ ?_;rintro⟨j,ok⟩ g2 ⟨rfl,hj,hok⟩ ih2
       try dsimp only
       dsimp only at hj hok;refine G.seq rfl ?_;refine xra Tryz.func5 3 rfl ?_;refine xp rfl (OpP.indexSlice Tryz.underlying22 H.sz9 rfl rfl i rfl hxa (by omega)) ?_;refine xp rfl (OpP.load H.ag9 rfl hc) ?_;refine xp rfl (OpP.lenString Tryz.underlying9 rfl) ?_;refine xqd 1 [0,1,2,7,8,9,10,53] rfl ?_;refine G.ite rfl rfl (fun hlt2=>?_) (fun hlt2=>?_)
       · have hjl:j<x.length:=by omega
         obtain⟨y,hy⟩:∃y,x[j]? =some y:=⟨_,List.getElem?_eq_getElem hjl⟩
         have hlt3:=low_take hy;have hli:=low_iff y;have hnx:(decide (x≠[]) && (x.take (j+1)).all isLow)=(ok && isLow y):=by rw[hlt3,←Bool.and_assoc,←hok]
         refine G.skip rfl ?_;refine G.seq rfl ?_;refine G.block rfl rfl ?_;refine G.regTo1 [(9,.bool (decide (x≠[]) && (x.take (j+1)).all isLow))] [(0,_),(1,_),(2,_),(7,_),(8,_),(10,_),(53,_)] ⟨rfl,rfl,rfl,rfl,rfl,rfl,rfl,trivial⟩ Tryz.func5 rfl ?_ ?_
         · refine xqm 2 rfl ?_;refine RW.split (d:=57) rfl (fun c=>?_) (fun c=>?_)
           · refine xqp 2 rfl rfl (OpP.indexSlice Tryz.underlying22 H.sz9 rfl rfl i rfl hxa (by omega)) ?_;refine xp rfl (OpP.load H.ag9 rfl hc) ?_;refine xqp 1 rfl rfl (OpP.indexStr Tryz.underlying9 rfl rfl j rfl (bs_at hy)) ?_;refine xqm 3 rfl ?_;refine RW.split (d:=66) rfl (fun d=>?_) (fun d=>?_)
             · have d:=of_decide_eq_true d;refine xqp 2 rfl rfl (OpP.indexSlice Tryz.underlying22 H.sz9 rfl rfl i rfl hxa (by omega)) ?_;refine xp rfl (OpP.load H.ag9 rfl hc) ?_;refine xqp 1 rfl rfl (OpP.indexStr Tryz.underlying9 rfl rfl j rfl (bs_at hy)) ?_;refine xqm 3 rfl ?_;refine RW.done rfl ?_;exact⟨rfl,at_bool rfl (by rw[hnx,c,Bool.true_and,Bool.eq_iff_iff,hli,decide_eq_true_iff];omega),rfl,rfl,rfl,rfl,rfl,rfl,rfl,trivial⟩
             · have d:=of_decide_eq_false d;refine xqm 9 rfl ?_;refine RW.done rfl ?_;exact⟨rfl,at_bool rfl (by rw[hnx,c,Bool.true_and];symm;rw[Bool.eq_false_iff];intro q;have:=hli.1 q;omega),rfl,rfl,rfl,rfl,rfl,rfl,rfl,trivial⟩
           · refine xqm 18 rfl ?_;refine RW.done rfl ?_;exact⟨rfl,at_bool rfl (by rw[hnx,c,Bool.false_and]),rfl,rfl,rfl,rfl,rfl,rfl,rfl,trivial⟩
         · refine G.blkEnd ?_;refine G.reg Tryz.func5 rfl ?_;refine xqp 1 rfl rfl (OpP.add64 rfl rfl ⟨by omega,by omega⟩) ?_;refine xqd 1 [0,1,2,7,8,9,10,53] rfl ?_;exact ih2 (j+1,_) _ _ ⟨rfl,rfl,rfl,rfl,rfl,rfl,rfl,trivial⟩ ⟨rfl,by show j+1≤_;omega,rfl⟩ (by show _-(j+1)<_-j;omega)
       · have hie:x.take j=x:=List.take_of_length_le (by omega);rw[hie] at hok;have hok:ok=lowP x:=hok;refine G.exit rfl rfl ?_;refine xrd Tryz.func5 1 [0,1,2,7,8,9,10,53,75] rfl ?_;refine G.cond rfl rfl (fun hgood=>?_) (fun hgood=>?_)
         · rw[hok] at hgood;rw[if_pos hgood] at hft;refine G.reg Tryz.func5 rfl ?_;refine xqp 3 rfl rfl (OpP.indexSlice Tryz.underlying22 H.sz9 rfl rfl i rfl hxa (by omega)) ?_;refine xp rfl (OpP.load H.ag9 rfl hc) ?_;refine xo rfl (OpX.buildOnes (us:=[_]) Tryz.underlying22 H.el9 rfl rfl (by decide) (by simp[Value.oneCell'])) ?_;rintro _ _ ⟨rfl,rfl⟩;refine xo rfl (OpX.appendNew Tryz.underlying22 H.el9 rfl rfl (ho) rfl rfl (by first|decide|simp[Value.oneCell']) (by omega) (by decide) (by omega)) ?_;rintro v5 h5 ⟨ho5,hx5,hx5',hv5⟩;refine xqd 1 [0,1,2,7,8,9,10,53,75] rfl ?_;refine G.blkEnd ?_;refine G.reg Tryz.func5 rfl ?_;refine xqp 1 rfl rfl (OpP.add64 rfl rfl ⟨by omega,by omega⟩) ?_;refine xqd 1 [0,1,2,7,8,9,10,53,75] rfl ?_
           have ho6:OwE encT h5 h.size 9 v5 ((names.take (i+1)).filter lowP):=by
            rw[hft]
            show OwnH _ _ _ _ _ _ _
            rw[List.length_append,List.map_append];exact ho5
           exact ih (i+1,v5) _ _ ⟨rfl,rfl,rfl,rfl,rfl,trivial⟩ ⟨by show i+1≤_;omega,ho6,Ext.own eg ho (Nat.le_refl _) hx5⟩ (by show _-(i+1)<_-i;omega)
         · rw[hok] at hgood;rw[if_neg (by rw[hgood];decide),List.append_nil] at hft;refine G.skip rfl ?_;refine G.blkEnd ?_;refine G.reg Tryz.func5 rfl ?_;refine xqp 1 rfl rfl (OpP.add64 rfl rfl ⟨by omega,by omega⟩) ?_;refine xqd 1 [0,1,2,7,8,9,10,53,75] rfl ?_;exact ih (i+1,va) _ _ ⟨rfl,rfl,rfl,rfl,rfl,trivial⟩ ⟨by show i+1≤_;omega,by rw[hft];exact ho,eg⟩ (by show _-(i+1)<_-i;omega)
     · have hie:names.take i=names:=List.take_of_length_le (by omega);rw[hie] at ho hfl;obtain⟨good,hgd⟩:∃good,good=names.filter lowP:=⟨_,rfl⟩
       rw[←hgd] at ho hfl
       have hgood:∀x∈good,x.length≤100∧∀b∈x,isLow b=true:=fun x hx=>by
        rw[hgd] at hx;obtain⟨h1,h2⟩:=List.mem_filter.1 hx;unfold lowP at h2;rw[Bool.and_eq_true] at h2;exact⟨hnl x h1,List.all_eq_true.1 h2.2⟩
       have hgl:∀x∈good,x.length≤1000000:=fun x hx=>Nat.le_trans (hgood x hx).1 (by decide)
       have hgs:SlR eBy g (fun _=>False) va good:=OwE.read (h1:=fun _=>rfl) ho (fun _ _ q=>q);obtain⟨k,hk⟩:∃k,k=a%(s.length+1):=⟨_,rfl⟩
       have hks:k≤s.length:=by have:=Nat.mod_lt a (show 0<s.length+1 by omega);omega
       have hkm:(a:Int).tmod ((s.length:Nat)+1)=(k:Nat):=by rw[Int.tmod_eq_emod_of_nonneg (by omega),hk];rfl
       have hg1:=hg.ext0 eg;obtain⟨lim1,hlim1,hsg1⟩:=hg1.lx.sg;refine G.exit rfl rfl ?_;refine xr Tryz.func5 rfl ?_;refine xo rfl (OpX.call (vs:=[]) Tryz.func12 rfl H.nm12 rfl (CallsH.toX (new_calls hsg1 hlim1 hg1.lx.tens hg1.lx.rules))) ?_;rintro p h1 ⟨hL,e1⟩;refine xqd 1 [0,1,2,7,8,11,38] rfl ?_;refine xra Tryz.func5 2 rfl ?_;refine xo rfl (OpX.call (vs:=[_,_]) Tryz.func13 rfl H.nm13 rfl (CallsH.toX (lall_calls (hg1.lx.ext0 e1) hL s (by omega)))) ?_;rintro _ h2 ⟨⟨v2,rfl,hv2⟩,e2⟩;refine xqm 3 rfl ?_;refine xo rfl (OpX.allocN H.zr27) ?_;rintro _ h3 ⟨rfl,k3,e3,z3⟩;refine xqm 1 rfl ?_;refine RW.op0 rfl rfl rfl (OpX.storeBlk H.sz27 rfl rfl k3 (by first|rfl|(simp;done)|(simp;omega)) (by first|decide|exact of_decide_eq_true rfl|(simp;done)|(simp;omega)) (lst_one _)) ?_;rintro _ h4 ⟨rfl,k4,x4,z4⟩;have f4:=Ext0.only e3 x4 (Nat.le_refl _);have e14:=e1.trans (e2.trans f4);have hg4:=hg1.ext0 e14;have hv4:=hv2.ext0 f4;have hgs4:=hgs.ext0 e14;have hL4:=hL.ext0 (e2.trans f4);have e04:=eg.trans e14;refine xd [0,1,2,7,8,11,12,38] rfl ?_;refine xra Tryz.func5 1 rfl ?_;refine xp rfl (OpP.convIn Tryz.underlying5 Tryz.underlying3 rfl (wrap_i64 (by omega))) ?_;refine xqp 1 rfl rfl (OpP.lenString Tryz.underlying9 rfl) ?_;refine xp rfl (OpP.add64 rfl rfl ⟨by omega,by omega⟩) ?_;refine xp rfl (OpP.rem rfl rfl (by omega)) ?_;rw[hz,hkm];refine xqd 1 [0,1,2,7,8,11,12,14,38] rfl ?_;refine xra Tryz.func5 4 rfl ?_;refine xo rfl (OpX.call (vs:=[_,_,_,_]) Tryz.func14 rfl H.nm14 rfl (CallsH.toX (Of_calls hg4.words s (by omega) hv4 hgs4 (by omega) (k:Nat)))) ?_;rintro _ h5 ⟨⟨lv,rfl,ho5⟩,e5⟩;have e05:=e04.trans e5;have hg5:=hg4.ext0 e5
       rcases Classical.em ((ofC s (allP s).1 (k:Nat) good).2=[]) with hne|hne
       · have hA:applyC s (allP s).1 (k:Nat) good=(s,(k:Int)):=by unfold applyC;rw[if_pos hne]
         rw[hne] at ho5;obtain⟨la,lc,rfl,_⟩:=OwnH.open ho5;refine xqd 5 [0,1,2,7,8,11,12,14,15,16,38] rfl ?_;refine xra Tryz.func5 4 rfl ?_;refine xo rfl (OpX.call (vs:=[_,_,_,_]) Tryz.func15 rfl H.nm15 rfl (CallsH.toX (Apply_calls hg5.words s (by omega) (hv4.ext0 e5) (hgs4.ext0 e5) (by omega) hgl (k:Nat)))) ?_;rintro _ h6 ⟨rfl,e6⟩;rw[hA];have e06:=e05.trans e6;refine xqd 5 [0,1,2,7,8,11,12,14,15,16,17,18,38] rfl ?_;refine G.seq rfl ?_;refine xra Tryz.func5 1 rfl ?_;refine xp rfl (OpP.lenSlice Tryz.underlying22 rfl) ?_;refine xqd 1 [0,1,2,7,8,11,12,14,15,16,17,18,38,114] rfl ?_;refine G.cond rfl rfl (fun _=>?_) (fun hc=>absurd hc (by simp));refine G.seq rfl ?_;refine G.regToX (fun(u:Unit) (h':Heap)=>Ext0 h h') (fun(u:Unit)=>[(6,.bool true)]) [(0,_),(1,_),(2,_),(7,_),(8,_),(11,_),(12,_),(14,_),(15,_),(16,_),(17,_),(18,_),(38,_),(114,_)] ⟨rfl,rfl,rfl,rfl,rfl,rfl,rfl,rfl,rfl,rfl,rfl,rfl,rfl,rfl,trivial⟩ Tryz.func5 rfl ?_ ?_
         · refine xqp 2 rfl rfl (OpP.eqlStr rfl rfl) ?_;refine xqm 1 rfl ?_;refine RW.know (d:=118) (b':=true) rfl (decide_eq_true (rfl)) ?_;refine xqm 5 rfl ?_;refine RW.know (d:=123) (b':=true) rfl (decide_eq_true (rfl)) ?_;refine xo rfl (OpX.call (vs:=[]) Tryz.func7 rfl H.nm7 rfl (CallsH.toX (completed_calls (hg5.ext0 e6)))) ?_;rintro _ h7 ⟨rfl,e7⟩;refine xqm 2 rfl ?_;refine RW.done rfl ?_;exact⟨(),e06.trans e7,at_bool rfl (rfl),rfl,rfl,rfl,rfl,rfl,rfl,rfl,rfl,rfl,rfl,rfl,rfl,rfl,rfl,trivial⟩
         · rintro u h8 e8;refine G.ret Tryz.func5 rfl rfl ?_;exact⟨_,rfl,rfl,e8⟩
       · obtain⟨f,more,li,Gr⟩:=grow_law hks (by omega) hgood hne;rw[Gr.of] at ho5 ⊢;have hs5:SlR eBy h5 (fun _=>False) lv li:=OwE.read (h1:=fun _=>rfl) ho5 (fun _ _ q=>q);obtain⟨la,ln,lc,rfl,hls⟩:=hs5.open;have hln:li.length=ln:=hls.len;subst hln;have hlc:=hls.le;have hlm:=hls.cap;simp only[maxLen] at hlm;have hlpos:0<li.length:=List.length_pos_iff.2 Gr.ne;have hfk:=Gr.lt;refine xqd 5 [0,1,2,7,8,11,12,14,15,16,38] rfl ?_;refine xra Tryz.func5 4 rfl ?_;refine xo rfl (OpX.call (vs:=[_,_,_,_]) Tryz.func15 rfl H.nm15 rfl (CallsH.toX (Apply_calls hg5.words s (by omega) (hv4.ext0 e5) (hgs4.ext0 e5) (by omega) hgl (k:Nat)))) ?_;rintro _ h6 ⟨rfl,e6⟩;rw[Gr.ap];have e06:=e05.trans e6;have hg6:=hg5.ext0 e6;obtain⟨t,ht⟩:∃t,t=s.take k++more++s.drop k:=⟨_,rfl⟩
         have hof2:=Gr.of2;have hap2:=Gr.ap2;rw[←ht] at hof2 hap2 ⊢;obtain⟨n,hnn⟩:∃n,n=k+more.length:=⟨_,rfl⟩
         rw[←hnn] at hof2 hap2 ⊢;dsimp only;have hpl:=part_len (s:=s) (i:=f) (j:=k) (by omega) hks
         have hml:more.length≤100:=by
          cases hq:li with
          |nil=>exact absurd hq Gr.ne
          |cons x0 l0 =>
           have h1:=(Gr.pre x0 (by rw[hq];simp)).length_le;have h2:=Gr.len x0 (by rw[hq];simp);rw[List.length_append] at h1;omega
         have htl:t.length=s.length+more.length:=by rw[ht];simp only[List.length_append,List.length_take,List.length_drop];omega
         have hzt:=bs_size t;have htk:t.take k=s.take k:=by rw[ht,List.append_assoc,List.take_append_of_le_length (by rw[List.length_take];omega),List.take_of_length_le (by rw[List.length_take];omega)]
         have htn:t.take n=s.take k++more:=by rw[ht,List.take_append_of_le_length (by rw[List.length_append,List.length_take];omega),List.take_of_length_le (by rw[List.length_append,List.length_take];omega)]
         have htd:t.drop n=s.drop k:=by
          rw[ht,show n=(s.take k++more).length by rw[List.length_append,List.length_take];omega,List.drop_left]
         have E1:(bs t).extract 0 k=(bs s).extract 0 k:=by rw[bs_part t 0 k (Nat.zero_le _),bs_part s 0 k (Nat.zero_le _),htk]
         have E2:(bs t).extract n (bs t).size=(bs s).extract k (bs s).size:=by rw[bs_drop,bs_drop,htd]
         have hpn:(bs t).extract f n=bs (partC s f k++more):=by
          rw[bs_part t f n (by omega),htn,List.drop_append_of_le_length (by rw[List.length_take];omega)];rfl
         have hpk:(bs s).extract f k=bs (partC s f k):=bs_part s f k (by omega);have hls6:=hls.mv (Mv.ext0 e6);refine xqd 5 [0,1,2,7,8,11,12,14,15,16,17,18,38] rfl ?_;refine G.seq rfl ?_;refine xra Tryz.func5 1 rfl ?_;refine xp rfl (OpP.lenSlice Tryz.underlying22 rfl) ?_;refine xqd 1 [0,1,2,7,8,11,12,14,15,16,17,18,38,114] rfl ?_;refine G.cond rfl rfl (fun hc=>absurd hc (by simp[Gr.ne])) (fun _=>?_);refine G.skip rfl ?_;refine G.seq rfl ?_;refine G.seq rfl ?_;refine G.drawQ Tryz.func5 H.mixed rfl (by kernel_rfl) ?_;refine RQ.pureS rfl rfl rfl rfl (OpP.move rfl) ?_;refine RQ.pureS rfl rfl rfl rfl (OpP.lss rfl rfl) ?_;refine RQ.pureS rfl rfl rfl rfl (OpP.move rfl) ?_;refine RQ.know (d:=128) (b':=false) rfl (decide_eq_false ((by omega))) ?_;refine RQ.pureS rfl rfl rfl rfl (OpP.move rfl) ?_;refine RQ.pureS rfl rfl rfl rfl (OpP.move rfl) ?_;refine RQ.pureS rfl rfl rfl rfl (OpP.geq rfl rfl) ?_;refine RQ.pureS rfl rfl rfl rfl (OpP.pickF rfl rfl) ?_;refine RQ.pureS rfl rfl rfl rfl (OpP.move rfl) ?_;refine RQ.know (d:=133) (b':=false) rfl (decide_eq_false ((by omega))) ?_;refine RQ.pureS rfl rfl rfl rfl (OpP.move rfl) ?_;refine RQ.pureS rfl rfl rfl rfl (OpP.move rfl) ?_;refine RQ.pureS rfl rfl rfl rfl (OpP.lss rfl rfl) ?_;refine RQ.pureS rfl rfl rfl rfl (OpP.pickF rfl rfl) ?_;refine RQ.pureS rfl rfl rfl rfl (OpP.move rfl) ?_;refine RQ.know (d:=138) (b':=false) rfl (decide_eq_false ((by omega))) ?_;refine RQ.pureS rfl rfl rfl rfl (OpP.move rfl) ?_;refine RQ.pureS rfl rfl rfl rfl (OpP.move rfl) ?_;refine RQ.pureS rfl rfl rfl rfl (OpP.lenString Tryz.underlying9 rfl) ?_;refine RQ.pureS rfl rfl rfl rfl (OpP.gtr rfl rfl) ?_;refine RQ.pureS rfl rfl rfl rfl (OpP.pickF rfl rfl) ?_;refine RQ.pureS rfl rfl rfl rfl (OpP.move rfl) ?_;refine RQ.know (d:=144) (b':=false) rfl (decide_eq_false ((by omega))) ?_;refine RQ.pureS rfl rfl rfl rfl (OpP.move rfl) ?_;refine RQ.pureS rfl rfl rfl rfl (OpP.move rfl) ?_;refine RQ.pureS rfl rfl rfl rfl (OpP.sliceStrHi Tryz.underlying9 rfl rfl k rfl (by omega)) ?_;refine RQ.pureS rfl rfl rfl rfl (OpP.move rfl) ?_;refine RQ.pureS rfl rfl rfl rfl (OpP.move rfl) ?_;refine RQ.pureS rfl rfl rfl rfl (OpP.sliceStrHi Tryz.underlying9 rfl rfl k rfl (by omega)) ?_;refine RQ.pureS rfl rfl rfl rfl (OpP.neqStr rfl rfl) ?_;refine RQ.pureS rfl rfl rfl rfl (OpP.pickF rfl rfl) ?_;refine RQ.pureS rfl rfl rfl rfl (OpP.move rfl) ?_;refine RQ.know (d:=153) (b':=false) rfl (decide_eq_false ((fun q=>q E1))) ?_;refine RQ.pureS rfl rfl rfl rfl (OpP.move rfl) ?_;refine RQ.pureS rfl rfl rfl rfl (OpP.move rfl) ?_;refine RQ.pureS rfl rfl rfl rfl (OpP.sliceStrLo Tryz.underlying9 rfl rfl n rfl (by omega)) ?_;refine RQ.pureS rfl rfl rfl rfl (OpP.move rfl) ?_;refine RQ.pureS rfl rfl rfl rfl (OpP.move rfl) ?_;refine RQ.pureS rfl rfl rfl rfl (OpP.sliceStrLo Tryz.underlying9 rfl rfl k rfl (by omega)) ?_;refine RQ.pureS rfl rfl rfl rfl (OpP.neqStr rfl rfl) ?_;refine RQ.pureS rfl rfl rfl rfl (OpP.pickF rfl rfl) ?_;refine RQ.done rfl ?_;refine xu [0,1,2,7,8,11,12,14,15,16,17,18,38,114,161] rfl ?_;refine G.cond rfl rfl (fun hc=>absurd hc (by simp[E2])) (fun _=>?_);refine G.skip rfl ?_;refine G.seq rfl ?_;refine xrd Tryz.func5 1 [0,1,2,7,8,11,12,14,15,16,17,18,19,38,114,161] rfl ?_;refine G.block rfl rfl ?_;refine G.loop (σ:=Nat) (fun j=>[(0,.string (bs s)),(7,va),(11,p),(14,.int .i64 (k:Nat)),(15,.int .i64 (f:Nat)),(16,.slice la li.length lc),(17,.string (bs t)),(18,.int .i64 (n:Nat)),(19,.int .i64 (j:Nat))]) (fun j h'=>h'=h6∧j≤li.length) (fun j=>li.length-j) (0) rfl ⟨rfl,rfl,rfl,rfl,rfl,rfl,rfl,rfl,rfl,trivial⟩ ⟨rfl,Nat.zero_le _⟩ ?_;rintro j g2 ⟨rfl,hj⟩ ih2;refine G.seq rfl ?_;refine xra Tryz.func5 2 rfl ?_;refine xp rfl (OpP.lenSlice Tryz.underlying22 rfl) ?_;refine xqd 1 [0,7,11,14,15,16,17,18,19,165] rfl ?_;refine G.ite rfl rfl (fun hlt2=>?_) (fun hlt2=>?_)
         · have hjl:j<li.length:=by omega
           obtain⟨b1,o1,x,hxa,_,hx,hxc⟩:=hls6.at hjl;have hxm:=List.mem_of_getElem? hx;have hzx:=bs_size x;have hpre:=Gr.pre x hxm;have hxlen:=hpre.length_le;rw[List.length_append] at hxlen
           have hX2:(bs x).extract 0 (n-f)=bs (partC s f k++more):=by
            rw[bs_part x 0 (n-f) (Nat.zero_le _),List.drop_zero,List.prefix_iff_eq_take.1 hpre,List.length_append,hpl,show k-f+more.length=n-f by omega]
           have hX1:(bs x).extract 0 (k-f)=bs (partC s f k):=by
            have hpre2:partC s f k <+: x:=(List.prefix_append _ _).trans hpre;rw[bs_part x 0 (k-f) (Nat.zero_le _),List.drop_zero,List.prefix_iff_eq_take.1 hpre2,hpl]
           refine G.skip rfl ?_;refine G.seq rfl ?_;refine G.block rfl rfl ?_;refine G.seq rfl ?_;refine G.drawQ Tryz.func5 H.mixed rfl (by kernel_rfl) ?_;refine RQ.pureS rfl rfl rfl rfl (OpP.move rfl) ?_;refine RQ.pureS rfl rfl rfl rfl (OpP.move rfl) ?_;refine RQ.pureS rfl rfl rfl rfl (OpP.indexSlice Tryz.underlying22 H.sz9 rfl rfl j rfl hxa (by omega)) ?_;refine RQ.pureS rfl rfl rfl rfl (OpP.load H.ag9 rfl hxc) ?_;refine RQ.pureS rfl rfl rfl rfl (OpP.lenString Tryz.underlying9 rfl) ?_;refine RQ.pureS rfl rfl rfl rfl (OpP.move rfl) ?_;refine RQ.pureS rfl rfl rfl rfl (OpP.move rfl) ?_;refine RQ.pureS rfl rfl rfl rfl (OpP.sub64 rfl rfl ⟨by omega,by omega⟩) ?_;refine RQ.pureS rfl rfl rfl rfl (OpP.lss rfl rfl) ?_;refine RQ.pureS rfl rfl rfl rfl (OpP.move rfl) ?_;refine RQ.know (d:=177) (b':=false) rfl (decide_eq_false ((by omega))) ?_;refine RQ.pureS rfl rfl rfl rfl (OpP.move rfl) ?_;refine RQ.pureS rfl rfl rfl rfl (OpP.move rfl) ?_;refine RQ.pureS rfl rfl rfl rfl (OpP.indexSlice Tryz.underlying22 H.sz9 rfl rfl j rfl hxa (by omega)) ?_;refine RQ.pureS rfl rfl rfl rfl (OpP.load H.ag9 rfl hxc) ?_;refine RQ.pureS rfl rfl rfl rfl (OpP.move rfl) ?_;refine RQ.pureS rfl rfl rfl rfl (OpP.move rfl) ?_;refine RQ.pureS rfl rfl rfl rfl (OpP.sub64 rfl rfl ⟨by omega,by omega⟩) ?_;refine RQ.pureS rfl rfl rfl rfl (OpP.sliceStrHi Tryz.underlying9 rfl rfl (k-f) (by omega) (by omega)) ?_;refine RQ.pureS rfl rfl rfl rfl (OpP.move rfl) ?_;refine RQ.pureS rfl rfl rfl rfl (OpP.move rfl) ?_;refine RQ.pureS rfl rfl rfl rfl (OpP.move rfl) ?_;refine RQ.pureS rfl rfl rfl rfl (OpP.sliceStr Tryz.underlying9 rfl rfl f rfl rfl k rfl (by omega) (by omega)) ?_;refine RQ.pureS rfl rfl rfl rfl (OpP.neqStr rfl rfl) ?_;refine RQ.pureS rfl rfl rfl rfl (OpP.pickF rfl rfl) ?_;refine RQ.pureS rfl rfl rfl rfl (OpP.move rfl) ?_;refine RQ.know (d:=192) (b':=false) rfl (decide_eq_false ((by rw[hX1,hpk];exact fun q=>q rfl))) ?_;refine RQ.pureS rfl rfl rfl rfl (OpP.move rfl) ?_;refine RQ.pureS rfl rfl rfl rfl (OpP.move rfl) ?_;refine RQ.pureS rfl rfl rfl rfl (OpP.indexSlice Tryz.underlying22 H.sz9 rfl rfl j rfl hxa (by omega)) ?_;refine RQ.pureS rfl rfl rfl rfl (OpP.load H.ag9 rfl hxc) ?_;refine RQ.pureS rfl rfl rfl rfl (OpP.lenString Tryz.underlying9 rfl) ?_;refine RQ.pureS rfl rfl rfl rfl (OpP.move rfl) ?_;refine RQ.pureS rfl rfl rfl rfl (OpP.move rfl) ?_;refine RQ.pureS rfl rfl rfl rfl (OpP.sub64 rfl rfl ⟨by omega,by omega⟩) ?_;refine RQ.pureS rfl rfl rfl rfl (OpP.lss rfl rfl) ?_;refine RQ.pureS rfl rfl rfl rfl (OpP.pickF rfl rfl) ?_;refine RQ.pureS rfl rfl rfl rfl (OpP.move rfl) ?_;refine RQ.know (d:=203) (b':=false) rfl (decide_eq_false ((by omega))) ?_;refine RQ.pureS rfl rfl rfl rfl (OpP.move rfl) ?_;refine RQ.pureS rfl rfl rfl rfl (OpP.move rfl) ?_;refine RQ.pureS rfl rfl rfl rfl (OpP.indexSlice Tryz.underlying22 H.sz9 rfl rfl j rfl hxa (by omega)) ?_;refine RQ.pureS rfl rfl rfl rfl (OpP.load H.ag9 rfl hxc) ?_;refine RQ.pureS rfl rfl rfl rfl (OpP.move rfl) ?_;refine RQ.pureS rfl rfl rfl rfl (OpP.move rfl) ?_;refine RQ.pureS rfl rfl rfl rfl (OpP.sub64 rfl rfl ⟨by omega,by omega⟩) ?_;refine RQ.pureS rfl rfl rfl rfl (OpP.sliceStrHi Tryz.underlying9 rfl rfl (n-f) (by omega) (by omega)) ?_;refine RQ.pureS rfl rfl rfl rfl (OpP.move rfl) ?_;refine RQ.pureS rfl rfl rfl rfl (OpP.move rfl) ?_;refine RQ.pureS rfl rfl rfl rfl (OpP.move rfl) ?_;refine RQ.pureS rfl rfl rfl rfl (OpP.sliceStr Tryz.underlying9 rfl rfl f rfl rfl n rfl (by omega) (by omega)) ?_;refine RQ.pureS rfl rfl rfl rfl (OpP.neqStr rfl rfl) ?_;refine RQ.pureS rfl rfl rfl rfl (OpP.pickF rfl rfl) ?_;refine RQ.pureS rfl rfl rfl rfl (OpP.move rfl) ?_;refine RQ.know (d:=218) (b':=false) rfl (decide_eq_false ((by rw[hX2,hpn];exact fun q=>q rfl))) ?_;refine RQ.pureS rfl rfl rfl rfl (OpP.move rfl) ?_;refine RQ.pureS rfl rfl rfl rfl (OpP.gtr rfl rfl) ?_;refine RQ.pureS rfl rfl rfl rfl (OpP.move rfl) ?_;refine RQ.split (d:=221) rfl (fun hjz=>?_) (fun hjz=>?_)
           · have hjz:=of_decide_eq_true hjz;have hj1:j-1<li.length:=by omega
             obtain⟨b2,o2,x2,hxa2,_,hx2,hxc2⟩:=hls6.at hj1
             have hlt3:Op.bytesLess x2 x=true:=by
              have h1:=(List.pairwise_iff_getElem.1 Gr.up) (j-1) j hj1 hjl (by omega);rw[List.getElem?_eq_getElem hj1] at hx2;rw[List.getElem?_eq_getElem hjl] at hx;cases hx2;cases hx;exact h1
             refine RQ.pureS rfl rfl rfl rfl (OpP.move rfl) ?_;refine RQ.pureS rfl rfl rfl rfl (OpP.move rfl) ?_;refine RQ.pureS rfl rfl rfl rfl (OpP.sub64 rfl rfl ⟨by omega,by omega⟩) ?_;refine RQ.pureS rfl rfl rfl rfl (OpP.indexSlice Tryz.underlying22 H.sz9 rfl rfl (j-1) (by omega) hxa2 (by omega)) ?_;refine RQ.pureS rfl rfl rfl rfl (OpP.load H.ag9 rfl hxc2) ?_;refine RQ.pureS rfl rfl rfl rfl (OpP.move rfl) ?_;refine RQ.pureS rfl rfl rfl rfl (OpP.move rfl) ?_;refine RQ.pureS rfl rfl rfl rfl (OpP.indexSlice Tryz.underlying22 H.sz9 rfl rfl j rfl hxa (by omega)) ?_;refine RQ.pureS rfl rfl rfl rfl (OpP.load H.ag9 rfl hxc) ?_;refine RQ.pureS rfl rfl rfl rfl (OpP.geqStr rfl rfl) ?_;refine RQ.pureS rfl rfl rfl rfl (OpP.pickT rfl rfl) ?_;refine RQ.pureS rfl rfl rfl rfl (OpP.pickF rfl rfl) ?_;refine RQ.done rfl ?_;refine xu [0,7,11,14,15,16,17,18,19,165,233] rfl ?_;refine G.cond rfl rfl (fun hc=>absurd hc (by rw[bs_list,bs_list,hlt3];decide)) (fun _=>?_);refine G.skip rfl ?_;refine G.blkEnd ?_;refine G.reg Tryz.func5 rfl ?_;refine xqp 1 rfl rfl (OpP.add64 rfl rfl ⟨by omega,by omega⟩) ?_;refine xqd 1 [0,7,11,14,15,16,17,18,19,165,233] rfl ?_;exact ih2 (j+1) _ _ ⟨rfl,rfl,rfl,rfl,rfl,rfl,rfl,rfl,rfl,trivial⟩ ⟨rfl,by omega⟩ (by omega)
           · refine RQ.skipS rfl rfl rfl rfl ?_;refine RQ.skipS rfl rfl rfl rfl ?_;refine RQ.skipS rfl rfl rfl rfl ?_;refine RQ.skipS rfl rfl rfl rfl ?_;refine RQ.skipS rfl rfl rfl rfl ?_;refine RQ.skipS rfl rfl rfl rfl ?_;refine RQ.skipS rfl rfl rfl rfl ?_;refine RQ.skipS rfl rfl rfl rfl ?_;refine RQ.skipS rfl rfl rfl rfl ?_;refine RQ.skipS rfl rfl rfl rfl ?_;refine RQ.pureS rfl rfl rfl rfl (OpP.pickF rfl rfl) ?_;refine RQ.pureS rfl rfl rfl rfl (OpP.pickF rfl rfl) ?_;refine RQ.done rfl ?_;refine xu [0,7,11,14,15,16,17,18,19,165,233] rfl ?_;refine G.cond rfl rfl (fun hc=>absurd hc (by decide)) (fun _=>?_);refine G.skip rfl ?_;refine G.blkEnd ?_;refine G.reg Tryz.func5 rfl ?_;refine xqp 1 rfl rfl (OpP.add64 rfl rfl ⟨by omega,by omega⟩) ?_;refine xqd 1 [0,7,11,14,15,16,17,18,19,165,233] rfl ?_;exact ih2 (j+1) _ _ ⟨rfl,rfl,rfl,rfl,rfl,rfl,rfl,rfl,rfl,trivial⟩ ⟨rfl,by omega⟩ (by omega)
         · refine G.exit rfl rfl ?_;refine xra Tryz.func5 2 rfl ?_;refine xo rfl (OpX.call (vs:=[_,_]) Tryz.func13 rfl H.nm13 rfl (CallsH.toX (lall_calls (hg6.lx) (hL4.ext0 (e5.trans e6)) t (by omega)))) ?_;rintro _ h7 ⟨⟨v7,rfl,hv7⟩,e7⟩;refine xqm 3 rfl ?_;refine xo rfl (OpX.allocN H.zr27) ?_;rintro _ h8 ⟨rfl,k8,e8,z8⟩;refine xqm 1 rfl ?_;refine RW.op0 rfl rfl rfl (OpX.storeBlk H.sz27 rfl rfl k8 (by first|rfl|(simp;done)|(simp;omega)) (by first|decide|exact of_decide_eq_true rfl|(simp;done)|(simp;omega)) (lst_one _)) ?_;rintro _ h9 ⟨rfl,k9,x9,z9⟩;have f9:=Ext0.only e8 x9 (Nat.le_refl _);have e69:=e7.trans f9;have hg9:=hg6.ext0 e69;have hv9:=hv7.ext0 f9;have hgs9:=hgs4.ext0 ((e5.trans e6).trans e69);refine xd [0,7,11,14,15,16,17,18,19,20,165] rfl ?_;refine xra Tryz.func5 4 rfl ?_;refine xo rfl (OpX.call (vs:=[_,_,_,_]) Tryz.func14 rfl H.nm14 rfl (CallsH.toX (Of_calls hg9.words t (by omega) hv9 hgs9 (by omega) (n:Nat)))) ?_;rintro _ h10 ⟨⟨lv2,rfl,ho10⟩,e10⟩;rw[hof2] at ho10 ⊢;have hs10:SlR eBy h10 (fun _=>False) lv2 li:=OwE.read (h1:=fun _=>rfl) ho10 (fun _ _ q=>q);obtain⟨ma,mn,mc,rfl,hms⟩:=hs10.open;have hmn:li.length=mn:=hms.len;subst hmn;refine xqd 5 [0,7,11,14,15,16,17,18,19,20,22,23,165] rfl ?_;refine xra Tryz.func5 4 rfl ?_;refine xo rfl (OpX.call (vs:=[_,_,_,_]) Tryz.func15 rfl H.nm15 rfl (CallsH.toX (Apply_calls (hg9.ext0 e10).words t (by omega) (hv9.ext0 e10) (hgs9.ext0 e10) (by omega) hgl (n:Nat)))) ?_;rintro _ h11 ⟨rfl,e11⟩;rw[hap2];dsimp only;have e611:=(e69.trans e10).trans e11;have hls11:=hls6.mv (Mv.ext0 e611);have hms11:=hms.mv (Mv.ext0 e11);refine xqd 5 [0,7,11,14,15,16,17,18,19,20,22,23,24,25,165] rfl ?_;refine G.seq rfl ?_;refine G.seq rfl ?_;refine G.drawQ Tryz.func5 H.mixed rfl (by kernel_rfl) ?_;refine RQ.pureS rfl rfl rfl rfl (OpP.move rfl) ?_;refine RQ.pureS rfl rfl rfl rfl (OpP.move rfl) ?_;refine RQ.pureS rfl rfl rfl rfl (OpP.neqInt rfl rfl) ?_;refine RQ.pureS rfl rfl rfl rfl (OpP.move rfl) ?_;refine RQ.know (d:=259) (b':=false) rfl (decide_eq_false ((fun q=>q rfl))) ?_;refine RQ.pureS rfl rfl rfl rfl (OpP.move rfl) ?_;refine RQ.pureS rfl rfl rfl rfl (OpP.lenSlice Tryz.underlying22 rfl) ?_;refine RQ.pureS rfl rfl rfl rfl (OpP.move rfl) ?_;refine RQ.pureS rfl rfl rfl rfl (OpP.lenSlice Tryz.underlying22 rfl) ?_;refine RQ.pureS rfl rfl rfl rfl (OpP.neqInt rfl rfl) ?_;refine RQ.pureS rfl rfl rfl rfl (OpP.pickF rfl rfl) ?_;refine RQ.pureS rfl rfl rfl rfl (OpP.move rfl) ?_;refine RQ.know (d:=266) (b':=false) rfl (decide_eq_false ((fun q=>q rfl))) ?_;refine RQ.pureS rfl rfl rfl rfl (OpP.move rfl) ?_;refine RQ.pureS rfl rfl rfl rfl (OpP.move rfl) ?_;refine RQ.pureS rfl rfl rfl rfl (OpP.neqStr rfl rfl) ?_;refine RQ.pureS rfl rfl rfl rfl (OpP.pickF rfl rfl) ?_;refine RQ.pureS rfl rfl rfl rfl (OpP.move rfl) ?_;refine RQ.know (d:=271) (b':=false) rfl (decide_eq_false ((fun q=>q rfl))) ?_;refine RQ.pureS rfl rfl rfl rfl (OpP.move rfl) ?_;refine RQ.pureS rfl rfl rfl rfl (OpP.move rfl) ?_;refine RQ.pureS rfl rfl rfl rfl (OpP.neqInt rfl rfl) ?_;refine RQ.pureS rfl rfl rfl rfl (OpP.pickF rfl rfl) ?_;refine RQ.pureS rfl rfl rfl rfl (OpP.move rfl) ?_;refine RQ.know (d:=276) (b':=false) rfl (decide_eq_false ((fun q=>q rfl))) ?_;refine RQ.pureS rfl rfl rfl rfl (OpP.move rfl) ?_;refine RQ.pureS rfl rfl rfl rfl (OpP.lenSlice Tryz.underlying22 rfl) ?_;refine RQ.pureS rfl rfl rfl rfl (OpP.eqlInt rfl rfl) ?_;refine RQ.pureS rfl rfl rfl rfl (OpP.move rfl) ?_;refine RQ.split (d:=280) rfl (fun h1=>?_) (fun h1=>?_)
           · have h1:(li.length:Int)=1:=of_decide_eq_true h1;obtain⟨b1,o1,x,hxa,_,hx,hxc⟩:=hls11.at hlpos
             have hone:partC s f k++more=x:=by
              have hc:=Gr.com;cases hq:li with
              |nil=>exact absurd hq Gr.ne
              |cons x0 l0 =>
               rw[hq] at hx hc h1;cases hx;have:l0=[]:=List.eq_nil_iff_length_eq_zero.2 (by simp only[List.length_cons] at h1;omega);subst this;exact hc.symm
             refine RQ.pureS rfl rfl rfl rfl (OpP.move rfl) ?_;refine RQ.pureS rfl rfl rfl rfl (OpP.move rfl) ?_;refine RQ.pureS rfl rfl rfl rfl (OpP.move rfl) ?_;refine RQ.pureS rfl rfl rfl rfl (OpP.sliceStr Tryz.underlying9 rfl rfl f rfl rfl n rfl (by omega) (by omega)) ?_;refine RQ.pureS rfl rfl rfl rfl (OpP.move rfl) ?_;refine RQ.pureS rfl rfl rfl rfl (OpP.indexSlice Tryz.underlying22 H.sz9 rfl rfl 0 rfl hxa (by omega)) ?_;refine RQ.pureS rfl rfl rfl rfl (OpP.load H.ag9 rfl hxc) ?_;refine RQ.pureS rfl rfl rfl rfl (OpP.neqStr rfl rfl) ?_;refine RQ.pureS rfl rfl rfl rfl (OpP.pickT rfl rfl) ?_;refine RQ.pureS rfl rfl rfl rfl (OpP.pickF rfl rfl) ?_;refine RQ.done rfl ?_;refine xu [0,7,11,14,15,16,17,18,19,20,22,23,24,25,165,290] rfl ?_;refine G.cond rfl rfl (fun hc=>absurd hc (by rw[hpn,hone];simp)) (fun _=>?_);refine G.skip rfl ?_;refine G.seq rfl ?_;refine xrd Tryz.func5 1 [0,7,11,14,15,16,17,18,19,20,22,23,24,25,26,165,290] rfl ?_;refine G.block rfl rfl ?_;refine G.loop (σ:=Nat) (fun j=>[(16,.slice la li.length lc),(23,.slice ma li.length mc),(26,.int .i64 (j:Nat))]) (fun j h'=>h'=h11∧j≤li.length) (fun j=>li.length-j) (0) rfl ⟨rfl,rfl,rfl,trivial⟩ ⟨rfl,Nat.zero_le _⟩ ?_;rintro j g3 ⟨rfl,hj⟩ ih3;refine G.seq rfl ?_;refine xra Tryz.func5 2 rfl ?_;refine xp rfl (OpP.lenSlice Tryz.underlying22 rfl) ?_;refine xqd 1 [16,23,26,294] rfl ?_;refine G.ite rfl rfl (fun hlt4=>?_) (fun hlt4=>?_)
             · have hjl:j<li.length:=by omega
               obtain⟨b1,o1,x,hxa,_,hx,hxc⟩:=hls11.at hjl;obtain⟨b2,o2,x2,hxa2,_,hx2,hxc2⟩:=hms11.at hjl;rw[hx] at hx2;cases hx2;refine G.skip rfl ?_;refine G.seq rfl ?_;refine G.block rfl rfl ?_;refine G.seq rfl ?_;refine G.drawQ Tryz.func5 H.mixed rfl (by kernel_rfl) ?_;refine RQ.pureS rfl rfl rfl rfl (OpP.move rfl) ?_;refine RQ.pureS rfl rfl rfl rfl (OpP.move rfl) ?_;refine RQ.pureS rfl rfl rfl rfl (OpP.indexSlice Tryz.underlying22 H.sz9 rfl rfl j rfl hxa2 (by omega)) ?_;refine RQ.pureS rfl rfl rfl rfl (OpP.load H.ag9 rfl hxc2) ?_;refine RQ.pureS rfl rfl rfl rfl (OpP.move rfl) ?_;refine RQ.pureS rfl rfl rfl rfl (OpP.move rfl) ?_;refine RQ.pureS rfl rfl rfl rfl (OpP.indexSlice Tryz.underlying22 H.sz9 rfl rfl j rfl hxa (by omega)) ?_;refine RQ.pureS rfl rfl rfl rfl (OpP.load H.ag9 rfl hxc) ?_;refine RQ.pureS rfl rfl rfl rfl (OpP.neqStr rfl rfl) ?_;refine RQ.done rfl ?_;refine xu [16,23,26,294,305] rfl ?_;refine G.cond rfl rfl (fun hc=>absurd hc (by simp)) (fun _=>?_);refine G.skip rfl ?_;refine G.blkEnd ?_;refine G.reg Tryz.func5 rfl ?_;refine xqp 1 rfl rfl (OpP.add64 rfl rfl ⟨by omega,by omega⟩) ?_;refine xqd 1 [16,23,26,294,305] rfl ?_;exact ih3 (j+1) _ _ ⟨rfl,rfl,rfl,trivial⟩ ⟨rfl,by omega⟩ (by omega)
             · refine G.exit rfl rfl ?_;refine xr Tryz.func5 rfl ?_;refine xo rfl (OpX.call (vs:=[]) Tryz.func7 rfl H.nm7 rfl (CallsH.toX (completed_calls (hg6.ext0 e611)))) ?_;rintro _ h12 ⟨rfl,e12⟩;refine xqd 1 [6,16,23,26,294] rfl ?_;refine G.ret Tryz.func5 rfl rfl ?_;exact⟨_,rfl,rfl,(e06.trans e611).trans e12⟩
           · refine RQ.skipS rfl rfl rfl rfl ?_;refine RQ.skipS rfl rfl rfl rfl ?_;refine RQ.skipS rfl rfl rfl rfl ?_;refine RQ.skipS rfl rfl rfl rfl ?_;refine RQ.skipS rfl rfl rfl rfl ?_;refine RQ.skipS rfl rfl rfl rfl ?_;refine RQ.skipS rfl rfl rfl rfl ?_;refine RQ.skipS rfl rfl rfl rfl ?_;refine RQ.pureS rfl rfl rfl rfl (OpP.pickF rfl rfl) ?_;refine RQ.pureS rfl rfl rfl rfl (OpP.pickF rfl rfl) ?_;refine RQ.done rfl ?_;refine xu [0,7,11,14,15,16,17,18,19,20,22,23,24,25,165,290] rfl ?_;refine G.cond rfl rfl (fun hc=>absurd hc (by decide)) (fun _=>?_);refine G.skip rfl ?_;refine G.seq rfl ?_;refine xrd Tryz.func5 1 [0,7,11,14,15,16,17,18,19,20,22,23,24,25,26,165,290] rfl ?_;refine G.block rfl rfl ?_;refine G.loop (σ:=Nat) (fun j=>[(16,.slice la li.length lc),(23,.slice ma li.length mc),(26,.int .i64 (j:Nat))]) (fun j h'=>h'=h11∧j≤li.length) (fun j=>li.length-j) (0) rfl ⟨rfl,rfl,rfl,trivial⟩ ⟨rfl,Nat.zero_le _⟩ ?_;rintro j g3 ⟨rfl,hj⟩ ih3;refine G.seq rfl ?_;refine xra Tryz.func5 2 rfl ?_;refine xp rfl (OpP.lenSlice Tryz.underlying22 rfl) ?_;refine xqd 1 [16,23,26,294] rfl ?_;refine G.ite rfl rfl (fun hlt4=>?_) (fun hlt4=>?_)
             · have hjl:j<li.length:=by omega
               obtain⟨b1,o1,x,hxa,_,hx,hxc⟩:=hls11.at hjl;obtain⟨b2,o2,x2,hxa2,_,hx2,hxc2⟩:=hms11.at hjl;rw[hx] at hx2;cases hx2;refine G.skip rfl ?_;refine G.seq rfl ?_;refine G.block rfl rfl ?_;refine G.seq rfl ?_;refine G.drawQ Tryz.func5 H.mixed rfl (by kernel_rfl) ?_;refine RQ.pureS rfl rfl rfl rfl (OpP.move rfl) ?_;refine RQ.pureS rfl rfl rfl rfl (OpP.move rfl) ?_;refine RQ.pureS rfl rfl rfl rfl (OpP.indexSlice Tryz.underlying22 H.sz9 rfl rfl j rfl hxa2 (by omega)) ?_;refine RQ.pureS rfl rfl rfl rfl (OpP.load H.ag9 rfl hxc2) ?_;refine RQ.pureS rfl rfl rfl rfl (OpP.move rfl) ?_;refine RQ.pureS rfl rfl rfl rfl (OpP.move rfl) ?_;refine RQ.pureS rfl rfl rfl rfl (OpP.indexSlice Tryz.underlying22 H.sz9 rfl rfl j rfl hxa (by omega)) ?_;refine RQ.pureS rfl rfl rfl rfl (OpP.load H.ag9 rfl hxc) ?_;refine RQ.pureS rfl rfl rfl rfl (OpP.neqStr rfl rfl) ?_;refine RQ.done rfl ?_;refine xu [16,23,26,294,305] rfl ?_;refine G.cond rfl rfl (fun hc=>absurd hc (by simp)) (fun _=>?_);refine G.skip rfl ?_;refine G.blkEnd ?_;refine G.reg Tryz.func5 rfl ?_;refine xqp 1 rfl rfl (OpP.add64 rfl rfl ⟨by omega,by omega⟩) ?_;refine xqd 1 [16,23,26,294,305] rfl ?_;exact ih3 (j+1) _ _ ⟨rfl,rfl,rfl,trivial⟩ ⟨rfl,by omega⟩ (by omega)
             · refine G.exit rfl rfl ?_;refine xr Tryz.func5 rfl ?_;refine xo rfl (OpX.call (vs:=[]) Tryz.func7 rfl H.nm7 rfl (CallsH.toX (completed_calls (hg6.ext0 e611)))) ?_;rintro _ h12 ⟨rfl,e12⟩;refine xqd 1 [6,16,23,26,294] rfl ?_;refine G.ret Tryz.func5 rfl rfl ?_;exact⟨_,rfl,rfl,(e06.trans e611).trans e12⟩
end Go.Proofs.YtfegacfjgjaghaaGreatDoor
