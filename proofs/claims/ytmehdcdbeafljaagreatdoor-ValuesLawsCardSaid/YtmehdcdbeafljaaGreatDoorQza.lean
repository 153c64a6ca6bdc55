/- What the proof of the statement leans on (part 27). -/
import Derived.Lib.MakeNoZero
import Derived.Laws.CopyOwn
import Derived.Lib.ConvBytes
import Derived.Lib.AtoiErrMem
import Derived.Laws.Runes
import Derived.Test.YtmehdcdbeafljaaGreatDoorQz

namespace Go.Proofs.YtmehdcdbeafljaaGreatDoor
open Go.Proofs.Tryz
open Go Go.Lw
set_option maxRecDepth 20000
section
variable {h h' hb:aA}{b i rb B m d:Nat}{l:List Tr}{x:Tr}{O O':Nat->Prop}{v ev nv:Value}{env:List Bd}{t:By}
def nq (l:By):List Value:=(List.range 256).map fun n=>.bool (decide (UInt8.ofNat n∈l))
@[simp] theorem EJ (l:By):(nq l).length=256:=by unfold nq;rw[List.length_map,List.length_range]
theorem Ce (l:By) (c:UInt8):(nq l)[c.toNat]? =some (.bool (decide (c∈l))):=by
 unfold nq;rw[List.getElem?_map,List.getElem?_range c.toNat_lt];simp
theorem EI (l:By) (c:UInt8):(nq l).set c.toNat (.bool true)=nq (l++[c]):=by
 apply List.ext_getElem?
 intro n;rw[List.getElem?_set]
 by_cases h:c.toNat=n
 · subst h;rw[if_pos rfl,if_pos (by rw[EJ];exact c.toNat_lt),Ce];simp
 · rw[if_neg h];unfold nq;rw[List.getElem?_map,List.getElem?_map]
   by_cases hn:n<256
   · rw[List.getElem?_range hn];have:¬UInt8.ofNat n=c:=fun q=>h (by rw[<-q];exact UInt8.toNat_ofNat_of_lt' hn)
     simp[this]
   · rw[List.getElem?_eq_none (by rw[List.length_range];omega)];rfl
theorem zE (l:By):∀v∈nq l,v.oneCell'=true:=fun v hv=>by unfold nq at hv;simp at hv;obtain⟨_,_,rfl⟩:=hv;rfl
theorem C9 (s:By) (hs:s.all (fun c=>decide (c.toNat<128))=true) (hsl:s.length<=1000000):ah Tryz.prog 188 #[.string (bs s)] h (cM fun r h'=>r=packed [.agg (nq s).toArray,.bool true]/\aC h h'):=by
 have hbz:=bY s;refine ah.of func188 rfl rfl ?_;refine xr func188 rfl ?_;refine xo rfl (az.aQ H.HW) ?_;rintro _ h1 ⟨rfl,k1,e1,z1⟩;have k1:bh h1 h.size 287 (nq []):=k1;refine aN 1 [0,2,3] rfl ?_;refine av rfl ?_;refine bf func188 1 [0,2,3,4] rfl ?_;refine G.block rfl rfl ?_;refine bO (σ:=Nat) (fun i=>[(0,.string (bs s)),(2,ptr h.size),(4,.int .i64 (i:Nat))]) (fun i g=>i<=s.length/\bh g h.size 287 (nq (s.take i))/\aC h g) (fun i=>s.length-i) (0) rfl ⟨rfl,rfl,rfl,trivial⟩ ⟨Nat.zero_le _,k1,e1⟩ ?_;rintro i g ⟨hi,kg,eg⟩ ih;refine av rfl ?_;refine bl func188 2 rfl ?_;refine xp rfl (aj.cw underlying9 rfl) ?_;refine aN 1 [0,2,4,9] rfl ?_;refine aM rfl rfl (fun hlt=>?_) (fun hlt=>?_)
 · have hil:i<s.length:=by omega
   obtain⟨c,hc⟩:∃c,s[i]? =some c:=⟨_,List.getElem?_eq_getElem hil⟩
   have hc7:c.toNat<128:=of_decide_eq_true (List.all_eq_true.1 hs c (List.mem_of_getElem? hc));refine aB rfl ?_;refine av rfl ?_;refine G.block rfl rfl ?_;refine bl func188 2 rfl ?_;refine xp rfl (aj.dy underlying9 rfl rfl i rfl (iD hc)) ?_;refine aN 1 [0,2,4,5,9] rfl ?_;refine av rfl ?_;refine bf func188 2 [0,2,4,5,9,16] rfl ?_;refine aJ rfl rfl (fun hc=>absurd hc (by simp;omega)) (fun _=>?_);refine aB rfl ?_;refine G.cz func188 rfl ?_;refine cI 1 rfl rfl (aj.cQ underlying287 H.lN rfl rfl c.toNat rfl c.toNat_lt) ?_;refine RW.bB rfl rfl rfl (az.bA H.lN rfl rfl kg (by first|decide|exact of_decide_eq_true rfl|(simp;done)|(simp;omega)) rfl) ?_;rintro _ g2 ⟨rfl,k2,x2,z2⟩;have k2:bh g2 h.size 287 (nq (s.take (i+1))):=by rw[List.take_add_one,hc,show (some c).toList=[c] from rfl,<-EI];simpa using k2
   refine xd [0,2,4,5,9,16] rfl ?_;refine G.aR ?_;refine G.cz func188 rfl ?_;refine cI 1 rfl rfl (aj.bJ rfl rfl ⟨by omega,by omega⟩) ?_;refine aN 1 [0,2,4,5,9,16] rfl ?_;exact ih (i+1) _ _ ⟨rfl,rfl,rfl,trivial⟩ ⟨hil,k2,aC.only eg x2 (Nat.le_refl _)⟩ (by omega)
 · have hie:i=s.length:=by omega
   rw[hie,List.take_length] at kg;refine bD rfl rfl ?_;refine xr func188 rfl ?_;refine xp rfl (aj.aE H.IM H.Ca rfl kg.row (by first|rfl|(simp;done)|(simp;omega))) ?_;refine RW.bB rfl rfl rfl (az.au H.Ca rfl rfl kg (by first|rfl|(simp;done)|(simp;omega)) (by first|decide|exact of_decide_eq_true rfl|(simp;done)|(simp;omega)) (zE s)) ?_;rintro _ g2 ⟨rfl,k2,x2,z2⟩;refine aN 1 [0,2,3,4,9] rfl ?_;refine G.br func188 rfl (.cons (aI.bp H.IM H.Ca rfl (k2.row) (by first|rfl|(simp;done)|(simp;omega))) (.cons (aI.tmp rfl) (.nil))) ?_;exact⟨_,rfl,by simp[over,List.drop_eq_nil_of_le],aC.only eg x2 (Nat.le_refl _)⟩
theorem rM {l:By}(k:bh h b 287 (nq l)) (c:UInt8):ah Tryz.prog 201 #[ptr b,.int .u8 (c.toNat:Nat)] h (cM fun r h'=>r= .bool (decide (c∈l))/\h'=h):=by
 refine ah.of func201 rfl rfl ?_;refine bf func201 1 [0,1,4] rfl ?_;refine bl func201 3 rfl ?_;refine xp rfl (aj.cQ underlying287 H.lN rfl rfl c.toNat rfl c.toNat_lt) ?_;refine xp rfl (ai H.uJ rfl (by simpa using k.cell (Ce l c))) ?_;refine aN 1 [0,1,4] rfl ?_;refine G.ret func201 rfl rfl ?_;exact⟨_,rfl,rfl,rfl⟩
theorem y8 {l:By}(k:bh h b 287 (nq l)) (s:By):ah Tryz.prog 189 #[.string (bs s),ptr b] h (cM fun r h'=>r= .string (bs (s.dropWhile fun c=>decide (c∈l)))/\h'=h):=by
 refine ah.of func189 rfl rfl ?_;refine bf func189 1 [0,1,4] rfl ?_;refine av rfl ?_;refine G.block rfl rfl ?_;refine bO (σ:=By) (fun t=>[(0,.string (bs t)),(1,ptr b)]) (fun t g=>g=h/\t.dropWhile (fun c=>decide (c∈l))=s.dropWhile fun c=>decide (c∈l)) (fun t=>t.length) (s) rfl ⟨rfl,rfl,trivial⟩ ⟨rfl,rfl⟩ ?_;rintro t g ⟨rfl,ht⟩ ih;have hbz:=bY t;rw[<-ht];refine av rfl ?_;refine bl func189 1 rfl ?_;refine xp rfl (aj.cw underlying9 rfl) ?_;refine aN 1 [0,1,7] rfl ?_
 rcases t with _|⟨c,r⟩
 · refine aJ rfl rfl (fun hc=>absurd hc (by decide)) (fun _=>?_);refine bD rfl rfl ?_;refine bf func189 2 [0,1,4,7] rfl ?_;refine G.ret func189 rfl rfl ?_;exact⟨_,rfl,rfl,rfl⟩
 · refine aJ rfl rfl (fun _=>?_) (fun hc=>absurd hc (by rw[hbz];simp));refine aB rfl ?_;refine G.block rfl rfl ?_;refine av rfl ?_;refine bl func189 2 rfl ?_;refine xp rfl (aj.dy underlying9 rfl rfl 0 rfl (iD (l:=c::r) (c:=c) rfl)) ?_;refine xo rfl (aq (vs:=[_,_]) func201 rfl H.KB rfl (ah.bq (rM k c))) ?_;rintro _ g1 ⟨rfl,hg1⟩;subst hg1;refine aN 1 [0,1,7,12] rfl ?_;refine aJ rfl rfl (fun hb=>?_) (fun hb=>?_)
   · have hb:¬c∈l:=by simpa using hb
     refine bD rfl rfl ?_;refine bf func189 2 [0,1,4,7,12] rfl ?_;refine G.ret func189 rfl rfl ?_;exact⟨_,rfl,by rw[List.dropWhile_cons,if_neg (by simpa using hb)];rfl,rfl⟩
   · have hb:c∈l:=by simpa using hb
     refine aB rfl ?_;refine G.cz func189 rfl ?_;refine cI 1 rfl rfl (aj.gP underlying9 rfl rfl 1 rfl (by rw[hbz];simp)) ?_;rw[nh,ht];refine aN 1 [0,1,7,12] rfl ?_;refine G.aR ?_;exact ih r _ _ ⟨rfl,rfl,trivial⟩ ⟨rfl,by rw[<-ht,List.dropWhile_cons,if_pos (by simpa using hb)]⟩ (by simp)
abbrev Ba:By:=[48,49,50,51,52,53,54,55,56,57]
theorem Hr (c:UInt8):decide (c∈Ba)=mu c:=by
 have k:∀n:Fin 256,decide (UInt8.ofFin n∈Ba)=mu (UInt8.ofFin n):=by unfold mu;decide +kernel
 exact k c.toFin
theorem A7 (s:By):ah Tryz.prog 172 #[.string (bs s),.string (bs Ba)] h (cM fun r h'=>r= .string (bs (dn s))/\aC h h'):=by
 have hd:s.dropWhile (fun c=>decide (c∈Ba))=dn s:=by unfold dn;congr 1;funext c;exact Hr c
 refine ah.of func172 rfl rfl ?_;refine bf func172 1 [0,1,4] rfl ?_;refine av rfl ?_;refine av rfl ?_;refine G.bw [(12,.bool (decide (s=[])))] [(0,_),(1,_),(4,_)] ⟨rfl,rfl,rfl,trivial⟩ func172 rfl ?_ ?_
 · refine cI 1 rfl rfl (aj.bS rfl rfl) ?_;refine aV 1 rfl ?_;refine aL (d:=9) rfl (fun g=>?_) (fun g=>?_)
   · have g:=of_decide_eq_true g;refine aV 3 rfl ?_;refine aD rfl ?_;exact⟨rfl,aF rfl (by rw[decide_eq_true (bZ g)]),rfl,rfl,rfl,trivial⟩
   · have g:=of_decide_eq_false g;refine cI 1 rfl rfl (aj.bS rfl rfl) ?_;refine aV 1 rfl ?_;refine aD rfl ?_;exact⟨rfl,aF rfl (by rw[show decide (s=[])=false from decide_eq_false (fun q=>g (by rw[q];rfl))];rfl),rfl,rfl,rfl,trivial⟩
 · refine aM rfl rfl (fun h0=>?_) (fun h0=>?_)
   · refine bf func172 2 [0,1,4,12] rfl ?_;refine G.ret func172 rfl rfl ?_;exact⟨_,rfl,by rw[h0];rfl,Ext.refl _ _⟩
   · refine aB rfl ?_;refine av rfl ?_;refine av rfl ?_;refine G.bw [(21,.bool false)] [(0,_),(1,_),(4,_),(12,_)] ⟨rfl,rfl,rfl,rfl,trivial⟩ func172 rfl ?_ ?_
     · refine cI 1 rfl rfl (aj.cw underlying9 rfl) ?_;refine aV 2 rfl ?_;refine RW.cS (d:=17) (b':=false) rfl (rfl) ?_;refine aV 4 rfl ?_;refine aD rfl ?_;exact⟨rfl,aF rfl (rfl),rfl,rfl,rfl,rfl,trivial⟩
     · refine aJ rfl rfl (fun hc=>absurd hc (by simp)) (fun _=>?_);refine aB rfl ?_;refine av rfl ?_;refine bl func172 1 rfl ?_;refine xo rfl (aq (vs:=[_]) func188 rfl H.KF rfl (ah.bq (C9 Ba (by decide) (by decide)))) ?_;rintro _ h1 ⟨rfl,e1⟩;refine aV 3 rfl ?_;refine xo rfl (az.aQ H.HW) ?_;rintro _ h2 ⟨rfl,k2,e2,z2⟩;refine RW.bB rfl rfl rfl (az.au H.Ca rfl rfl k2 (by first|rfl|(simp;done)|(simp;omega)) (by first|decide|exact of_decide_eq_true rfl|(simp;done)|(simp;omega)) (zE Ba)) ?_;rintro _ h3 ⟨rfl,k3,x3,z3⟩;have k3:bh h3 h1.size 287 (nq Ba):=k3;refine aN 1 [0,1,4,5,6,12,21] rfl ?_;refine bf func172 1 [0,1,4,5,6,12,21,31] rfl ?_;refine aJ rfl rfl (fun _=>?_) (fun hc=>absurd hc (by simp));refine bl func172 1 rfl ?_;refine xo rfl (aq (vs:=[_,_]) func189 rfl H.KE rfl (ah.bq (y8 k3 s))) ?_;rintro _ h4 ⟨rfl,hh4⟩;refine aN 1 [0,1,4,5,6,12,21,31] rfl ?_;refine G.ret func172 rfl rfl ?_;have e13:aC h1 h3:=aC.only e2 x3 (Nat.le_refl _);exact⟨_,rfl,by rw[hd];rfl,by rw[hh4];exact e1.trans e13⟩
theorem iN (s:By):ah Tryz.prog 144 #[.string (bs s)] h (cM fun r h'=>r=packed [.string (bs (dn s)),.bool (fK s)]/\aC h h'):=by
 have q1:=bY s;have q2:=bY (dn s);refine ah.of func144 rfl rfl ?_;refine bf func144 2 [0,2,3] rfl ?_;refine bl func144 1 rfl ?_;refine xo rfl (aq (vs:=[_,_]) func172 rfl H.KH rfl (ah.bq (A7 s))) ?_;rintro _ h1 ⟨rfl,e1⟩;refine aN 1 [0,2,3,4] rfl ?_;refine bl func144 2 rfl ?_;refine xp rfl (aj.cw underlying9 rfl) ?_;refine cI 1 rfl rfl (aj.cw underlying9 rfl) ?_;refine aN 3 [0,2,3,4] rfl ?_;refine G.ret func144 rfl rfl ?_;exact⟨_,rfl,by unfold fK;rw[q1,q2];simp,e1⟩
def uo (s:By):Bool:=match s with| []=>false|c::_=>decide (c=46)
theorem yh (s:By):ah Tryz.prog 145 #[.string (bs s),.string (bs [46])] h (cM fun r h'=>r=packed [.string (bs (if uo s then s.drop 1 else s)),.bool (uo s)]/\h'=h):=by
 have k:ah Tryz.prog 145 #[.string (bs s),.string (bs [46])] h _:=ah.rZ fun w=>Tryz.strings_CutPrefix (bs s) (bs [46]) w
 refine k.ret fun v h' ⟨h1,h2⟩=>⟨?_,h2⟩
 rw[h1]
 have e:Lib.hasPrefix (bs s).data.toList (bs [46]).data.toList=uo s:=by
  rw[jF,jF];unfold Lib.hasPrefix uo;cases s with
  |nil=>rfl
  |cons c r=>simp only[List.isPrefixOf,Bool.and_true];rw[Bool.eq_iff_iff];simp only[beq_iff_eq,decide_eq_true_iff];exact eq_comm
 rw[e];unfold Lib.trimPrefix;rw[e,jF,jF];rfl
def rm (s:By) (a b:UInt8):Bool:=match s with| []=>false|c::_=>decide (c=a) ||decide (c=b)
theorem FN (s:By) (ok:Bool):qt s ok=if (ok && rm s 101 69)=true then (if rm (s.drop 1) 43 45=true then fK ((s.drop 1).drop 1) && decide (dn ((s.drop 1).drop 1)=[]) else fK (s.drop 1) && decide (dn (s.drop 1)=[])) else (ok && decide (s=[])):=by
 cases s with
 |nil=>simp[qt,rm]
 |cons c r =>
  unfold qt rm;simp only[Bool.and_eq_true,Bool.or_eq_true,decide_eq_true_eq,List.drop_succ_cons,List.drop_zero]
  by_cases h:ok=true/\(c=101\/c=69)
  · rw[if_pos h,if_pos h];cases r with
    |nil=>rfl
    |cons d r=>simp only[Bool.or_eq_true,decide_eq_true_eq,List.drop_succ_cons,List.drop_zero]
  · rw[if_neg h,if_neg h];simp
theorem E7 (s:By):GR s=if (fK s && uo (dn s))=true then qt (dn ((dn s).drop 1)) (fK ((dn s).drop 1)) else qt (dn s) (fK s):=by
 unfold GR;cases hd:dn s with
 |nil=>simp[uo,qt]
 |cons c r =>
  simp only[uo,Bool.and_eq_true,decide_eq_true_eq,List.drop_succ_cons,List.drop_zero]
theorem ne_nil {s:By}(h:¬bs s=(⟨#[]⟩:ByteArray)):∃c r,s=c::r:=by
 cases s with
 |nil=>exact absurd rfl h
 |cons c r=>exact⟨c,r,rfl⟩
theorem eq_nil {s:By}(h:bs s=(⟨#[]⟩:ByteArray)):s=[]:=bZ (m:=[]) h
theorem lP (c:UInt8) (n:UInt8):decide ((c.toNat:Int)=(n.toNat:Int))=decide (c=n):=J3 c n
theorem vw (s:By):ah Tryz.prog 108 #[.string (bs s)] h (cM fun r h'=>r= .bool (GR s)/\aC h h'):=by
 rw[E7];refine ah.of func108 rfl rfl ?_;refine bf func108 1 [0,2] rfl ?_;refine bl func108 1 rfl ?_;refine xo rfl (aq (vs:=[_]) func144 rfl H.Cq rfl (ah.bq (iN s))) ?_;rintro _ h1 ⟨rfl,e1⟩;refine aN 5 [0,2,3] rfl ?_;refine av rfl ?_;refine bl func108 1 rfl ?_;refine xo rfl (aq (vs:=[_,_]) func145 rfl H.KP rfl (ah.bq (yh (dn s)))) ?_;rintro _ h2 ⟨rfl,hh2⟩;subst hh2;refine aN 5 [0,2,3,4,5] rfl ?_;refine av rfl ?_;refine G.bw [(19,.bool (fK s && uo (dn s)))] [(0,_),(2,_),(3,_),(4,_),(5,_)] ⟨rfl,rfl,rfl,rfl,rfl,trivial⟩ func108 rfl ?_ ?_
 · refine aV 2 rfl ?_;refine aL (d:=17) rfl (fun a=>?_) (fun a=>?_)
   · refine aV 2 rfl ?_;refine aD rfl ?_;exact⟨rfl,aF rfl (by rw[a];rfl),rfl,rfl,rfl,rfl,rfl,trivial⟩
   · refine aV 2 rfl ?_;refine aD rfl ?_;exact⟨rfl,aF rfl (by rw[a];rfl),rfl,rfl,rfl,rfl,rfl,trivial⟩
 · have fin:∀(s1:By) (ok1:Bool) (h':aA) (ρ':Env),Sub [(0,.string (bs s1)),(3,.bool ok1)] ρ'->aC h h'->(if (fK s && uo (dn s))=true then qt (dn ((dn s).drop 1)) (fK ((dn s).drop 1)) else qt (dn s) (fK s))=qt s1 ok1->G Tryz.prog 108 f108 [.code [1,1,1]] ρ' h' (cM fun r h'=>r= .bool (if (fK s && uo (dn s))=true then qt (dn ((dn s).drop 1)) (fK ((dn s).drop 1)) else qt (dn s) (fK s))/\aC h h'):=by
    rintro s1 ok1 h3 ρ' hsub e3 hnum;rw[hnum,FN];have hbz:=bY s1;refine G.sub (ρ':=[(0,.string (bs s1)),(3,.bool ok1)]) hsub ?_;refine av rfl ?_;refine av rfl ?_;refine G.bw [(39,.bool (ok1 && rm s1 101 69))] [(0,_),(3,_)] ⟨rfl,rfl,trivial⟩ func108 rfl ?_ ?_
    · refine aV 2 rfl ?_;refine aL (d:=26) rfl (fun a=>?_) (fun a=>?_)
      · rw[a,Bool.true_and];refine cI 1 rfl rfl (aj.n8 rfl rfl) ?_;refine aV 2 rfl ?_;refine aL (d:=30) rfl (fun b=>?_) (fun b=>?_)
        · obtain⟨c,r,rfl⟩:=ne_nil (s:=s1) (by simpa using b);refine cI 1 rfl rfl (aj.dy underlying9 rfl rfl 0 rfl (iD (l:=c::r) rfl)) ?_;refine aV 2 rfl ?_;refine aL (d:=34) rfl (fun d=>?_) (fun d=>?_)
          · refine aV 5 rfl ?_;refine aD rfl ?_;exact⟨rfl,aF rfl (by show _=(decide (c=101) ||decide (c=69));rw[<-lP c 101,<-lP c 69,show (((101:UInt8).toNat:Nat):Int)=101 from rfl,d];rfl),rfl,rfl,trivial⟩
          · refine cI 1 rfl rfl (aj.dy underlying9 rfl rfl 0 rfl (iD (l:=c::r) rfl)) ?_;refine aV 3 rfl ?_;refine aD rfl ?_;exact⟨rfl,aF rfl (by show _=(decide (c=101) ||decide (c=69));rw[<-lP c 101,<-lP c 69,show (((101:UInt8).toNat:Nat):Int)=101 from rfl,d];rfl),rfl,rfl,trivial⟩
        · have hb:s1=[]:=eq_nil (by simpa using b);refine aV 9 rfl ?_;refine aD rfl ?_;exact⟨rfl,aF rfl (by rw[hb];rfl),rfl,rfl,trivial⟩
      · rw[a,Bool.false_and];refine aV 13 rfl ?_;refine aD rfl ?_;exact⟨rfl,aF rfl (rfl),rfl,rfl,trivial⟩
    · refine aJ rfl rfl (fun hq=>?_) (fun hq=>?_)
      · rw[if_pos hq]
        have hne:1<=s1.length:=by
         cases s1 with
         |nil=>simp[rm] at hq
         |cons c r=>simp
        refine bl func108 1 rfl ?_;refine xp rfl (aj.gP underlying9 rfl rfl 1 rfl (by omega)) ?_;rw[nh];have hbz2:=bY (s1.drop 1);refine aN 1 [0,3,39] rfl ?_;refine av rfl ?_;refine av rfl ?_;refine G.bw [(53,.bool (rm (s1.drop 1) 43 45))] [(0,_),(3,_),(39,_)] ⟨rfl,rfl,rfl,trivial⟩ func108 rfl ?_ ?_
        · refine cI 1 rfl rfl (aj.n8 rfl rfl) ?_;refine aV 1 rfl ?_;refine aL (d:=44) rfl (fun b=>?_) (fun b=>?_)
          · obtain⟨c,r,hcr⟩:=ne_nil (s:=s1.drop 1) (by simpa using b);rw[hcr];refine cI 1 rfl rfl (aj.dy underlying9 rfl rfl 0 rfl (iD (l:=c::r) rfl)) ?_;refine aV 2 rfl ?_;refine aL (d:=48) rfl (fun d=>?_) (fun d=>?_)
            · refine aV 5 rfl ?_;refine aD rfl ?_;exact⟨rfl,aF rfl (by show _=(decide (c=43) ||decide (c=45));rw[<-lP c 43,<-lP c 45,show (((43:UInt8).toNat:Nat):Int)=43 from rfl,d];rfl),rfl,rfl,rfl,trivial⟩
            · refine cI 1 rfl rfl (aj.dy underlying9 rfl rfl 0 rfl (iD (l:=c::r) rfl)) ?_;refine aV 3 rfl ?_;refine aD rfl ?_;exact⟨rfl,aF rfl (by show _=(decide (c=43) ||decide (c=45));rw[<-lP c 43,<-lP c 45,show (((43:UInt8).toNat:Nat):Int)=43 from rfl,d];rfl),rfl,rfl,rfl,trivial⟩
          · have hb:s1.drop 1=[]:=eq_nil (by simpa using b);refine aV 9 rfl ?_;refine aD rfl ?_;exact⟨rfl,aF rfl (by rw[hb];rfl),rfl,rfl,rfl,trivial⟩
        · refine aJ rfl rfl (fun hg=>?_) (fun hg=>?_)
          · rw[if_pos hg]
            have hne2:1<=(s1.drop 1).length:=by
             cases hs:s1.drop 1 with
             |nil=>rw[hs] at hg;simp[rm] at hg
             |cons c r=>simp
            refine G.cz func108 rfl ?_;refine cI 1 rfl rfl (aj.gP underlying9 rfl rfl 1 rfl (by omega)) ?_;rw[nh];refine aN 1 [0,3,39,53] rfl ?_;refine G.cz func108 rfl ?_;refine aV 1 rfl ?_;refine xo rfl (aq (vs:=[_]) func144 rfl H.Cq rfl (ah.bq (iN ((s1.drop 1).drop 1)))) ?_;rintro _ h4 ⟨rfl,e4⟩;refine aN 5 [0,3,39,53] rfl ?_;refine av rfl ?_;refine G.bw [(2,.bool (fK ((s1.drop 1).drop 1) && decide (dn ((s1.drop 1).drop 1)=[])))] [(0,_),(3,_),(39,_),(53,_)] ⟨rfl,rfl,rfl,rfl,trivial⟩ func108 rfl ?_ ?_
            · refine aV 2 rfl ?_;refine aL (d:=62) rfl (fun b=>?_) (fun b=>?_)
              · refine cI 1 rfl rfl (aj.bS rfl rfl) ?_;refine aV 2 rfl ?_;refine aD rfl ?_;exact⟨rfl,aF rfl (by rw[b];exact yp _),rfl,rfl,rfl,rfl,trivial⟩
              · refine aV 4 rfl ?_;refine aD rfl ?_;exact⟨rfl,aF rfl (by rw[b];rfl),rfl,rfl,rfl,rfl,trivial⟩
            · refine G.ret func108 rfl rfl ?_;exact⟨_,rfl,rfl,e3.trans e4⟩
          · rw[if_neg (by rw[hg];decide)];refine aB rfl ?_;refine G.cz func108 rfl ?_;refine aV 1 rfl ?_;refine xo rfl (aq (vs:=[_]) func144 rfl H.Cq rfl (ah.bq (iN (s1.drop 1)))) ?_;rintro _ h4 ⟨rfl,e4⟩;refine aN 5 [0,3,39,53] rfl ?_;refine av rfl ?_;refine G.bw [(2,.bool (fK (s1.drop 1) && decide (dn (s1.drop 1)=[])))] [(0,_),(3,_),(39,_),(53,_)] ⟨rfl,rfl,rfl,rfl,trivial⟩ func108 rfl ?_ ?_
            · refine aV 2 rfl ?_;refine aL (d:=62) rfl (fun b=>?_) (fun b=>?_)
              · refine cI 1 rfl rfl (aj.bS rfl rfl) ?_;refine aV 2 rfl ?_;refine aD rfl ?_;exact⟨rfl,aF rfl (by rw[b];exact yp _),rfl,rfl,rfl,rfl,trivial⟩
              · refine aV 4 rfl ?_;refine aD rfl ?_;exact⟨rfl,aF rfl (by rw[b];rfl),rfl,rfl,rfl,rfl,trivial⟩
            · refine G.ret func108 rfl rfl ?_;exact⟨_,rfl,rfl,e3.trans e4⟩
      · rw[if_neg (by rw[hq];decide)];refine aB rfl ?_;refine av rfl ?_;refine G.bw [(2,.bool (ok1 && decide (s1=[])))] [(0,_),(3,_),(39,_)] ⟨rfl,rfl,rfl,trivial⟩ func108 rfl ?_ ?_
        · refine aV 2 rfl ?_;refine aL (d:=62) rfl (fun b=>?_) (fun b=>?_)
          · refine cI 1 rfl rfl (aj.bS rfl rfl) ?_;refine aV 2 rfl ?_;refine aD rfl ?_;exact⟨rfl,aF rfl (by rw[b];exact yp _),rfl,rfl,rfl,trivial⟩
          · refine aV 4 rfl ?_;refine aD rfl ?_;exact⟨rfl,aF rfl (by rw[b];rfl),rfl,rfl,rfl,trivial⟩
        · refine G.ret func108 rfl rfl ?_;exact⟨_,rfl,rfl,e3⟩
   refine aJ rfl rfl (fun hp=>?_) (fun hp=>?_)
   · have hp2:uo (dn s)=true:=by rw[Bool.and_eq_true] at hp;exact hp.2
     rw[if_pos hp2];refine G.cz func108 rfl ?_;refine aV 1 rfl ?_;refine xo rfl (aq (vs:=[_]) func144 rfl H.Cq rfl (ah.bq (iN ((dn s).drop 1)))) ?_;rintro _ h4 ⟨rfl,e4⟩;refine aN 5 [0,2,3,4,5,19] rfl ?_;exact fin _ _ _ _ ⟨rfl,rfl,trivial⟩ (e1.trans e4) (if_pos hp)
   · refine aB rfl ?_;exact fin _ _ _ _ ⟨rfl,rfl,trivial⟩ e1 (if_neg (by rw[hp];decide))
structure GA (h:aA):Prop where
 lx:AU h
 esc:qb h
 una:∃v,cellAt h ⟨2,0,none⟩=some v/\bX ny h (fun _=>False) v El
 bin:∃v,cellAt h ⟨3,0,none⟩=some v/\bX ny h (fun _=>False) v F8
theorem GA.ax {h h':aA}(k:GA h) (e:aC h h'):GA h':=by
 obtain⟨h1,h2,⟨v,h3,h4⟩,w,h5,h6⟩:=k;exact⟨h1.ax e,h2.ax e,⟨v,e.cell (fun k=>k) h3,h4.mv (Mv.ax e)⟩,⟨w,e.cell (fun k=>k) h5,h6.mv (Mv.ax e)⟩⟩
theorem u5 (c:UInt8):ah Tryz.prog 146 #[.int .u8 (c.toNat:Nat)] h (cM fun r h'=>r= .bool (isLet c)/\h'=h):=by
 rw[DD];refine ah.of func146 rfl rfl ?_;refine bf func146 1 [0,2] rfl ?_;refine av rfl ?_;refine G.bw [(2,.bool (decide ((97<=c.toNat/\c.toNat<=122)\/(65<=c.toNat/\c.toNat<=90)\/c.toNat=95)))] [(0,_)] ⟨rfl,trivial⟩ func146 rfl ?_ ?_
 · refine aV 3 rfl ?_;refine aL (d:=5) rfl (fun a=>?_) (fun a=>?_)
   · have a:=of_decide_eq_true a;refine aV 4 rfl ?_;refine aL (d:=9) rfl (fun b=>?_) (fun b=>?_)
     · have b:=of_decide_eq_true b;refine aV 12 rfl ?_;refine aD rfl ?_;exact⟨rfl,aF rfl (by rw[decide_eq_true (by omega)]),rfl,trivial⟩
     · have b:=of_decide_eq_false b;refine aV 3 rfl ?_;refine aL (d:=12) rfl (fun d=>?_) (fun d=>?_)
       · have d:=of_decide_eq_true d;refine aV 5 rfl ?_;refine aL (d:=17) rfl (fun e=>?_) (fun e=>?_)
         · have e:=of_decide_eq_true e;refine aV 4 rfl ?_;refine aD rfl ?_;exact⟨rfl,aF rfl (by rw[decide_eq_true (by omega)]),rfl,trivial⟩
         · have e:=of_decide_eq_false e;refine aV 4 rfl ?_;refine aD rfl ?_;exact⟨rfl,aF rfl (by rw[decide_eq_decide];omega),rfl,trivial⟩
       · have d:=of_decide_eq_false d;refine aV 9 rfl ?_;refine aD rfl ?_;exact⟨rfl,aF rfl (by rw[decide_eq_decide];omega),rfl,trivial⟩
   · have a:=of_decide_eq_false a;refine aV 7 rfl ?_;refine aL (d:=12) rfl (fun d=>?_) (fun d=>?_)
     · have d:=of_decide_eq_true d;refine aV 5 rfl ?_;refine aL (d:=17) rfl (fun e=>?_) (fun e=>?_)
       · have e:=of_decide_eq_true e;refine aV 4 rfl ?_;refine aD rfl ?_;exact⟨rfl,aF rfl (by rw[decide_eq_true (by omega)]),rfl,trivial⟩
       · have e:=of_decide_eq_false e;refine aV 4 rfl ?_;refine aD rfl ?_;exact⟨rfl,aF rfl (by rw[decide_eq_decide];omega),rfl,trivial⟩
     · have d:=of_decide_eq_false d;refine aV 9 rfl ?_;refine aD rfl ?_;exact⟨rfl,aF rfl (by rw[decide_eq_decide];omega),rfl,trivial⟩
 · refine G.ret func146 rfl rfl ?_;exact⟨_,rfl,rfl,rfl⟩
theorem wK (c:UInt8):ah Tryz.prog 147 #[.int .u8 (c.toNat:Nat)] h (cM fun r h'=>r= .bool (mu c)/\h'=h):=by
 rw[DE];refine ah.of func147 rfl rfl ?_;refine bf func147 1 [0,2] rfl ?_;refine av rfl ?_;refine G.bw [(2,.bool (decide (48<=c.toNat/\c.toNat<=57)))] [(0,_)] ⟨rfl,trivial⟩ func147 rfl ?_ ?_
 · refine aV 3 rfl ?_;refine aL (d:=5) rfl (fun a=>?_) (fun a=>?_)
   · have a:=of_decide_eq_true a;refine aV 4 rfl ?_;refine aD rfl ?_;exact⟨rfl,aF rfl (by rw[decide_eq_decide];omega),rfl,trivial⟩
   · have a:=of_decide_eq_false a;refine aV 4 rfl ?_;refine aD rfl ?_;exact⟨rfl,aF rfl (by rw[decide_eq_false (by omega)]),rfl,trivial⟩
 · refine G.ret func147 rfl rfl ?_;exact⟨_,rfl,rfl,rfl⟩
theorem mh (hg:AU h) (s:By) (hs:s.length<=1000000):ah Tryz.prog 109 #[.string (bs s)] h (cM fun r h'=>r= .bool (oe cN s)/\h'=h):=by
 have hbz:=bY s;refine ah.of func109 rfl rfl ?_;refine bf func109 1 [0,2] rfl ?_;refine av rfl ?_;refine bl func109 1 rfl ?_;refine xp rfl (aj.cw underlying9 rfl) ?_;refine aN 1 [0,2,5,6] rfl ?_;refine G.block rfl rfl ?_;refine bO (σ:=Nat) (fun i=>[(0,.string (bs s)),(5,.int .i64 ((bs s).size:Nat)),(6,.int .i64 (i:Nat))]) (fun i g=>g=h/\i<=s.length/\∀j c,j<i->s[j]? =some c->Co j c=true) (fun i=>s.length-i) (0) rfl ⟨rfl,rfl,rfl,trivial⟩ ⟨rfl,Nat.zero_le _,fun j c q=>by omega⟩ ?_;rintro i g ⟨rfl,hi,hin⟩ ih;refine bf func109 1 [0,5,6,7] rfl ?_;refine av rfl ?_;refine aM rfl rfl (fun hlt=>?_) (fun hlt=>?_)
 · have hil:i<s.length:=by omega
   obtain⟨c,hc⟩:∃c,s[i]? =some c:=⟨_,List.getElem?_eq_getElem hil⟩
   refine aB rfl ?_;refine av rfl ?_;refine G.block rfl rfl ?_;refine bf func109 2 [0,3,5,6,7] rfl ?_;refine av rfl ?_;refine G.bw [(24,.bool (!Co i c))] [(0,_),(3,_),(5,_),(6,_),(7,_)] ⟨rfl,rfl,rfl,rfl,rfl,trivial⟩ func109 rfl ?_ ?_
   · refine cI 2 rfl rfl (aj.dy underlying9 rfl rfl i rfl (iD hc)) ?_;refine xo rfl (aq (vs:=[_]) func146 rfl H.KO rfl (ah.bq (u5 c))) ?_;rintro _ g1 ⟨rfl,hg1⟩;subst hg1;refine aV 2 rfl ?_;refine aL (d:=14) rfl (fun a=>?_) (fun a=>?_)
     · have a:isLet c=false:=by simpa using a
       refine aV 3 rfl ?_;refine aL (d:=17) rfl (fun z=>?_) (fun z=>?_)
       · have z:=of_decide_eq_true z;refine aV 7 rfl ?_;refine aD rfl ?_;exact⟨rfl,aF rfl (by unfold Co;rw[a,decide_eq_false (by omega)];rfl),rfl,rfl,rfl,rfl,rfl,trivial⟩
       · have z:=of_decide_eq_false z;refine cI 2 rfl rfl (aj.dy underlying9 rfl rfl i rfl (iD hc)) ?_;refine xo rfl (aq (vs:=[_]) func147 rfl H.KN rfl (ah.bq (wK c))) ?_;rintro _ g1 ⟨rfl,hg1⟩;subst hg1;refine aV 3 rfl ?_;refine aD rfl ?_;exact⟨rfl,aF rfl (by unfold Co;rw[a,decide_eq_true (show i≠0 by omega)];rfl),rfl,rfl,rfl,rfl,rfl,trivial⟩
     · have a:isLet c=true:=by simpa using a
       refine aV 10 rfl ?_;refine aD rfl ?_;exact⟨rfl,aF rfl (by unfold Co;rw[a];rfl),rfl,rfl,rfl,rfl,rfl,trivial⟩
   · refine aJ rfl rfl (fun hb=>?_) (fun hb=>?_)
     · have hb:Co i c=false:=by simpa using hb
       refine bf func109 1 [0,2,3,5,6,7,24] rfl ?_;refine G.ret func109 rfl rfl ?_;exact⟨_,rfl,by rw[Fk cN hc hb];rfl,rfl⟩
     · have hb:Co i c=true:=by simpa using hb
       refine aB rfl ?_;refine G.aR ?_;refine G.cz func109 rfl ?_;refine xp rfl (aj.bJ rfl rfl ⟨by omega,by omega⟩) ?_;refine aN 1 [0,3,5,6,7,24] rfl ?_;exact ih (i+1) _ _ ⟨rfl,rfl,rfl,trivial⟩ ⟨rfl,hil,fun j d hj hd=>(Nat.lt_succ_iff_lt_or_eq.1 hj).elim (fun q=>hin j d q hd) (fun q=>by subst q;rw[hc] at hd;cases hd;exact hb)⟩ (by omega)
 · refine bD rfl rfl ?_;refine av rfl ?_;refine G.bw [(2,.bool (oe cN s))] [(0,_),(5,_),(6,_),(7,_)] ⟨rfl,rfl,rfl,rfl,trivial⟩ func109 rfl ?_ ?_
   · refine cI 1 rfl rfl (aj.n8 rfl rfl) ?_;refine aV 1 rfl ?_;refine aL (d:=28) rfl (fun a=>?_) (fun a=>?_)
     · have h0:s≠[]:=fun q=>by rw[q] at a;exact of_decide_eq_true a rfl
       refine aV 1 rfl ?_;refine xo rfl (aq (vs:=[_]) func67 rfl H.Ks rfl (ah.bq (sr hg s hs))) ?_;rintro _ g1 ⟨rfl,hg1⟩;subst hg1;refine aV 3 rfl ?_;refine aD rfl ?_;exact⟨rfl,aF rfl (by rw[Dq cN h0 (fun j c hj=>hin j c (by have:=(List.getElem?_eq_some_iff.1 hj).1;omega) hj)]),rfl,rfl,rfl,rfl,trivial⟩
     · have h0:s=[]:=by simpa using eq_nil (s:=s) (by simpa using a)
       refine aV 5 rfl ?_;refine aD rfl ?_;exact⟨rfl,aF rfl (by rw[h0,Dp]),rfl,rfl,rfl,rfl,trivial⟩
   · refine G.ret func109 rfl rfl ?_;exact⟨_,rfl,rfl,rfl⟩
theorem BE (k:Int):ah Tryz.prog 107 #[.int .i64 k] h (cM fun r h'=>r=packed [.int .i64 ((eZ k).1:Nat),.int .i64 ((eZ k).2:Nat)]/\h'=h):=by
 refine ah.of func107 rfl rfl ?_;refine bf func107 2 [0,2,3] rfl ?_;refine av rfl ?_;refine bf func107 1 [0,2,3,4] rfl ?_;refine G.block rfl rfl ?_;refine av rfl ?_;refine bf func107 2 [0,2,3,4,5] rfl ?_;refine aM rfl rfl (fun c4=>?_) (fun c4=>?_)
 · refine aB rfl ?_;refine aJ rfl rfl (fun _=>?_) (fun hc=>absurd hc (by simp[c4]));refine bf func107 2 [0,2,3,4,5] rfl ?_;refine G.ret func107 rfl rfl ?_;exact⟨_,rfl,by unfold eZ;rw[if_pos (.inl c4)];rfl,rfl⟩
 · refine G.cz func107 rfl ?_;refine aN 2 [0,2,3,4,5] rfl ?_;refine aM rfl rfl (fun c8=>?_) (fun c8=>?_)
   · refine bf func107 2 [0,2,3,4,5] rfl ?_;refine G.ret func107 rfl rfl ?_;exact⟨_,rfl,by unfold eZ;rw[if_pos (.inr c8)];rfl,rfl⟩
   · refine av rfl ?_;refine bf func107 2 [0,2,3,4,5,8] rfl ?_;refine aM rfl rfl (fun c5=>?_) (fun c5=>?_)
     · refine aB rfl ?_;refine aJ rfl rfl (fun _=>?_) (fun hc=>absurd hc (by simp[c5]));refine bf func107 2 [0,2,3,4,5,8] rfl ?_;refine G.ret func107 rfl rfl ?_;exact⟨_,rfl,by unfold eZ;rw[if_neg (by omega),if_pos (.inl c5)];rfl,rfl⟩
     · refine G.cz func107 rfl ?_;refine aN 2 [0,2,3,4,5,8] rfl ?_;refine aM rfl rfl (fun c9=>?_) (fun c9=>?_)
       · refine bf func107 2 [0,2,3,4,5,8] rfl ?_;refine G.ret func107 rfl rfl ?_;exact⟨_,rfl,by unfold eZ;rw[if_neg (by omega),if_pos (.inr c9)];rfl,rfl⟩
       · refine bf func107 2 [0,2,3,4,5,8,11] rfl ?_;refine aM rfl rfl (fun c6=>?_) (fun c6=>?_)
         · refine bf func107 2 [0,2,3,4,5,8,11] rfl ?_;refine G.ret func107 rfl rfl ?_;exact⟨_,rfl,by unfold eZ;rw[if_neg (by omega),if_neg (by omega),if_pos c6];rfl,rfl⟩
         · refine bf func107 2 [0,2,3,4,5,8,11,13] rfl ?_;refine aM rfl rfl (fun c7=>?_) (fun c7=>?_)
           · refine bf func107 2 [0,2,3,4,5,8,11,13] rfl ?_;refine G.ret func107 rfl rfl ?_;exact⟨_,rfl,by unfold eZ;rw[if_neg (by omega),if_neg (by omega),if_neg c6,if_pos c7];rfl,rfl⟩
           · refine bf func107 2 [0,2,3,4,5,8,11,13,15] rfl ?_;refine aM rfl rfl (fun c10=>?_) (fun c10=>?_)
             · refine bf func107 2 [0,2,3,4,5,8,11,13,15] rfl ?_;refine G.ret func107 rfl rfl ?_;exact⟨_,rfl,by unfold eZ;rw[if_neg (by omega),if_neg (by omega),if_neg c6,if_neg c7,if_pos c10];rfl,rfl⟩
             · refine aB rfl ?_;refine G.aR ?_;refine bf func107 2 [0,2,3,4,5,8,11,13,15] rfl ?_;refine G.ret func107 rfl rfl ?_;exact⟨_,rfl,by unfold eZ;rw[if_neg (by omega),if_neg (by omega),if_neg c6,if_neg c7,if_neg c10];rfl,rfl⟩
def bounds (k:Int) (n:Nat):Bool:=decide ((0<=k/\k<=10)/\(eZ k).1<=n/\n<=(eZ k).2)
theorem EG (word:By->Bool) (k:Int) (t:By) (n:Nat):iV word k t n=(bounds k n && iS word k t):=by
 unfold iV bounds;rw[Bool.eq_iff_iff];simp only[Bool.and_eq_true,decide_eq_true_eq];constructor
 · intro ⟨a,b,c,d,e⟩;exact⟨⟨⟨c,d⟩,a,b⟩,e⟩
 · intro ⟨⟨⟨c,d⟩,a,b⟩,e⟩;exact⟨a,b,c,d,e⟩
abbrev CU (k:Int) (t:By) (a:Option Addr) (n c:Nat):List Value:=[.int .i64 k,.string (bs t),.slice a n c]
theorem zD (hg:GA h) (k:Int) (t:By) (a:Option Addr) (n c:Nat) (ht:t.length<=1000000) :
 ah Tryz.prog 61 #[.agg #[.int .i64 k,.string (bs t),.slice a n c]] h (cM fun r h'=>r= .bool (iV cN k t n)/\aC h h'):=by
 rw[EG];have hbz:=bY t;refine ah.of func61 rfl rfl ?_;refine xr func61 rfl ?_;refine xo rfl (az.eR rfl) ?_;rintro _ h1 ⟨rfl,k1,e1,z1⟩;have k1:bh h1 h.size 25 (CU k t a n c):=k1;refine aN 1 [0,1,2] rfl ?_;refine xr func61 rfl ?_;refine xp rfl (af (off:=0) underlying25 rfl rfl H.bV rfl) ?_;refine xp rfl (ai H.cK rfl (k1.cell (i:=0) rfl)) ?_;refine xo rfl (aq (vs:=[_]) func107 rfl H.K0 rfl (ah.bq (BE k))) ?_;rintro _ h2 ⟨rfl,hh2⟩;subst hh2;refine aN 5 [0,1,2,3,4] rfl ?_;refine av rfl ?_;refine av rfl ?_;refine G.bw [(32,.bool (!bounds k n))] [(0,_),(1,_),(2,_),(3,_),(4,_)] ⟨rfl,rfl,rfl,rfl,rfl,trivial⟩ func61 rfl ?_ ?_
 · refine xp rfl (af (off:=0) underlying25 rfl rfl H.bV rfl) ?_;refine xp rfl (ai H.cK rfl (k1.cell (i:=0) rfl)) ?_;refine aV 2 rfl ?_;refine aL (d:=14) rfl (fun a=>?_) (fun a=>?_)
   · have a:=of_decide_eq_true a;refine aV 18 rfl ?_;refine aD rfl ?_;exact⟨rfl,aF rfl (by unfold bounds;rw[decide_eq_false (by omega)];rfl),rfl,rfl,rfl,rfl,rfl,trivial⟩
   · have a:=of_decide_eq_false a;refine xp rfl (af (off:=0) underlying25 rfl rfl H.bV rfl) ?_;refine xp rfl (ai H.cK rfl (k1.cell (i:=0) rfl)) ?_;refine aV 3 rfl ?_;refine aL (d:=19) rfl (fun b=>?_) (fun b=>?_)
     · have b:=of_decide_eq_true b;refine aV 13 rfl ?_;refine aD rfl ?_;exact⟨rfl,aF rfl (by unfold bounds;rw[decide_eq_false (by omega)];rfl),rfl,rfl,rfl,rfl,rfl,trivial⟩
     · have b:=of_decide_eq_false b;refine xp rfl (af (off:=2) underlying25 rfl rfl H.eX rfl) ?_;refine xp rfl (ai H.jm rfl (k1.cell (i:=2) rfl)) ?_;refine xp rfl (aj.aS underlying23 rfl) ?_;refine aV 4 rfl ?_;refine aL (d:=26) rfl (fun d=>?_) (fun d=>?_)
       · have d:=of_decide_eq_true d;refine aV 6 rfl ?_;refine aD rfl ?_;exact⟨rfl,aF rfl (by unfold bounds;rw[decide_eq_false (by omega)];rfl),rfl,rfl,rfl,rfl,rfl,trivial⟩
       · have d:=of_decide_eq_false d;refine xp rfl (af (off:=2) underlying25 rfl rfl H.eX rfl) ?_;refine xp rfl (ai H.jm rfl (k1.cell (i:=2) rfl)) ?_;refine xp rfl (aj.aS underlying23 rfl) ?_;refine aV 3 rfl ?_;refine aD rfl ?_;exact⟨rfl,aF rfl (by unfold bounds;rw[<-decide_not,decide_eq_decide];omega),rfl,rfl,rfl,rfl,rfl,trivial⟩
 · refine aJ rfl rfl (fun hb=>?_) (fun hb=>?_)
   · have hb:bounds k n=false:=by simpa using hb
     rw[hb];refine bf func61 1 [0,1,2,3,4,32] rfl ?_;refine G.ret func61 rfl rfl ?_;exact⟨_,rfl,rfl,e1⟩
   · have hb:bounds k n=true:=by simpa using hb
     rw[hb,Bool.true_and];refine aB rfl ?_;refine av rfl ?_;refine xr func61 rfl ?_;refine xp rfl (af (off:=0) underlying25 rfl rfl H.bV rfl) ?_;refine xp rfl (ai H.cK rfl (k1.cell (i:=0) rfl)) ?_;refine xd [0,1,2,3,4,32,34] rfl ?_;refine G.block rfl rfl ?_;refine bf func61 2 [0,1,2,3,4,32,34,35] rfl ?_;refine aM rfl rfl (fun c0=>?_) (fun c0=>?_)
     · refine xr func61 rfl ?_;refine xp rfl (af (off:=1) underlying25 rfl rfl H.eG rfl) ?_;refine xp rfl (ai H.fu rfl (k1.cell (i:=1) rfl)) ?_;refine xo rfl (aq (vs:=[_]) func108 rfl H.KZ rfl (ah.bq (vw t))) ?_;rintro _ h3 ⟨rfl,e3⟩;refine aN 1 [0,1,2,3,4,32,34,35] rfl ?_;refine G.ret func61 rfl rfl ?_;exact⟨_,rfl,by unfold iS;rw[if_pos c0];rfl,e1.trans e3⟩
     · refine bf func61 2 [0,1,2,3,4,32,34,35,40] rfl ?_;refine aM rfl rfl (fun c1=>?_) (fun c1=>?_)
       · refine xr func61 rfl ?_;refine xp rfl (af (off:=1) underlying25 rfl rfl H.eG rfl) ?_;refine xp rfl (ai H.fu rfl (k1.cell (i:=1) rfl)) ?_;refine xp rfl (aj.cw underlying9 rfl) ?_;refine aN 2 [0,1,2,3,4,32,34,35,40] rfl ?_;refine G.ret func61 rfl rfl ?_;exact⟨_,rfl,by unfold iS;rw[if_neg c0,if_pos c1];show Value.bool _=_;rw[hbz];simp only[Value.bool.injEq,decide_eq_decide];omega,e1⟩
       · refine bf func61 2 [0,1,2,3,4,32,34,35,40,46] rfl ?_;refine aM rfl rfl (fun c2=>?_) (fun c2=>?_)
         · refine av rfl ?_;refine G.bw [(2,.bool (decide (t=jW) ||decide (t=nW)))] [(0,_),(1,_),(3,_),(4,_),(32,_),(34,_),(35,_),(40,_),(46,_)] ⟨rfl,rfl,rfl,rfl,rfl,rfl,rfl,rfl,rfl,trivial⟩ func61 rfl ?_ ?_
           · refine xp rfl (af (off:=1) underlying25 rfl rfl H.eG rfl) ?_;refine xp rfl (ai H.fu rfl (k1.cell (i:=1) rfl)) ?_;refine xp rfl (aj.bS rfl rfl) ?_;refine aV 1 rfl ?_;refine aL (d:=51) rfl (fun g=>?_) (fun g=>?_)
             · have g:t=jW:=bZ (m:=jW) (of_decide_eq_true g);refine aV 5 rfl ?_;refine aD rfl ?_;exact⟨rfl,aF rfl (by rw[decide_eq_true g];rfl),rfl,rfl,rfl,rfl,rfl,rfl,rfl,rfl,rfl,trivial⟩
             · have g:¬t=jW:=fun q=>of_decide_eq_false g (by rw[q];rfl)
               refine xp rfl (af (off:=1) underlying25 rfl rfl H.eG rfl) ?_;refine xp rfl (ai H.fu rfl (k1.cell (i:=1) rfl)) ?_;refine xp rfl (aj.bS rfl rfl) ?_;refine aV 2 rfl ?_;refine aD rfl ?_;exact⟨rfl,aF rfl (by rw[decide_eq_false g,Bool.false_or];exact II t nW),rfl,rfl,rfl,rfl,rfl,rfl,rfl,rfl,rfl,trivial⟩
           · refine G.ret func61 rfl rfl ?_;exact⟨_,rfl,by unfold iS;rw[if_neg c0,if_neg c1,if_pos c2];rfl,e1⟩
         · refine av rfl ?_;refine bf func61 2 [0,1,2,3,4,32,34,35,40,46,56] rfl ?_;refine aM rfl rfl (fun c3=>?_) (fun c3=>?_)
           · refine aB rfl ?_;refine aJ rfl rfl (fun _=>?_) (fun hc=>absurd hc (by simp[c3]));refine xr func61 rfl ?_;refine xp rfl (af (off:=1) underlying25 rfl rfl H.eG rfl) ?_;refine xp rfl (ai H.fu rfl (k1.cell (i:=1) rfl)) ?_;refine xo rfl (aq (vs:=[_]) func109 rfl H.Fg rfl (ah.bq (mh (hg.ax e1).lx t ht))) ?_;rintro _ h3 ⟨rfl,hh3⟩;refine aN 1 [0,1,2,3,4,32,34,35,40,46,56] rfl ?_;refine G.ret func61 rfl rfl ?_;exact⟨_,rfl,by unfold iS;rw[if_neg c0,if_neg c1,if_neg c2,if_pos (.inl c3)];rfl,by rw[hh3];exact e1⟩
           · refine bf func61 2 [0,1,2,3,4,32,34,35,40,46,56] rfl ?_;refine aM rfl rfl (fun c7=>?_) (fun c7=>?_)
             · refine aB rfl ?_;refine aJ rfl rfl (fun _=>?_) (fun hc=>absurd hc (by simp[c7]));refine xr func61 rfl ?_;refine xp rfl (af (off:=1) underlying25 rfl rfl H.eG rfl) ?_;refine xp rfl (ai H.fu rfl (k1.cell (i:=1) rfl)) ?_;refine xo rfl (aq (vs:=[_]) func109 rfl H.Fg rfl (ah.bq (mh (hg.ax e1).lx t ht))) ?_;rintro _ h3 ⟨rfl,hh3⟩;refine aN 1 [0,1,2,3,4,32,34,35,40,46,56] rfl ?_;refine G.ret func61 rfl rfl ?_;exact⟨_,rfl,by unfold iS;rw[if_neg c0,if_neg c1,if_neg c2,if_pos (.inr (.inl c7))];rfl,by rw[hh3];exact e1⟩
             · refine G.cz func61 rfl ?_;refine aN 2 [0,1,2,3,4,32,34,35,40,46,56] rfl ?_;refine aM rfl rfl (fun c8=>?_) (fun c8=>?_)
               · refine xr func61 rfl ?_;refine xp rfl (af (off:=1) underlying25 rfl rfl H.eG rfl) ?_;refine xp rfl (ai H.fu rfl (k1.cell (i:=1) rfl)) ?_;refine xo rfl (aq (vs:=[_]) func109 rfl H.Fg rfl (ah.bq (mh (hg.ax e1).lx t ht))) ?_;rintro _ h3 ⟨rfl,hh3⟩;refine aN 1 [0,1,2,3,4,32,34,35,40,46,56] rfl ?_;refine G.ret func61 rfl rfl ?_;exact⟨_,rfl,by unfold iS;rw[if_neg c0,if_neg c1,if_neg c2,if_pos (.inr (.inr c8))];rfl,by rw[hh3];exact e1⟩
               · refine bf func61 2 [0,1,2,3,4,32,34,35,40,46,56,63] rfl ?_;refine aM rfl rfl (fun c4=>?_) (fun c4=>?_)
                 · obtain⟨uv,hu1,hu2⟩:=(hg.ax e1).una;refine xr func61 rfl ?_;refine xp rfl (ai H.HC rfl hu1) ?_;refine xp rfl (af (off:=1) underlying25 rfl rfl H.eG rfl) ?_;refine xp rfl (ai H.fu rfl (k1.cell (i:=1) rfl)) ?_;refine xo rfl (aq (vs:=[_,_]) func90 rfl H.Jm rfl (ah.bq (ow hu2 t))) ?_;rintro _ h3 ⟨rfl,hh3⟩;refine aN 1 [0,1,2,3,4,32,34,35,40,46,56,63] rfl ?_;refine G.ret func61 rfl rfl ?_;exact⟨_,rfl,by unfold iS;rw[if_neg c0,if_neg c1,if_neg c2,if_neg (by omega),if_pos c4];rfl,by rw[hh3];exact e1⟩
                 · refine bf func61 2 [0,1,2,3,4,32,34,35,40,46,56,63,69] rfl ?_;refine aM rfl rfl (fun c5=>?_) (fun c5=>?_)
                   · obtain⟨uv,hu1,hu2⟩:=(hg.ax e1).bin;refine xr func61 rfl ?_;refine xp rfl (ai H.HC rfl hu1) ?_;refine xp rfl (af (off:=1) underlying25 rfl rfl H.eG rfl) ?_;refine xp rfl (ai H.fu rfl (k1.cell (i:=1) rfl)) ?_;refine xo rfl (aq (vs:=[_,_]) func90 rfl H.Jm rfl (ah.bq (ow hu2 t))) ?_;rintro _ h3 ⟨rfl,hh3⟩;refine aN 1 [0,1,2,3,4,32,34,35,40,46,56,63,69] rfl ?_;refine G.ret func61 rfl rfl ?_;exact⟨_,rfl,by unfold iS;rw[if_neg c0,if_neg c1,if_neg c2,if_neg (by omega),if_neg c4,if_pos c5];rfl,by rw[hh3];exact e1⟩
                   · refine aB rfl ?_;refine G.aR ?_;refine xr func61 rfl ?_;refine xp rfl (af (off:=1) underlying25 rfl rfl H.eG rfl) ?_;refine xp rfl (ai H.fu rfl (k1.cell (i:=1) rfl)) ?_;refine xp rfl (aj.bS rfl rfl) ?_;refine aN 1 [0,1,2,3,4,32,34,35,40,46,56,63,69] rfl ?_;refine G.ret func61 rfl rfl ?_;exact⟨_,rfl,by unfold iS;rw[if_neg c0,if_neg c1,if_neg c2,if_neg (by omega),if_neg c4,if_neg c5];show Value.bool _=_;rw[<-yp],e1⟩
def alone (x:Tr):Bool:=decide (x.kind≠7) ||decide (x.kids.length=2)
def FE (k:Int) (i:Nat) (x:Tr):Bool:=decide (k≠6) ||(decide (i=0) ||(decide (x.kind=10) ||(decide (i≠1) && decide (x.kind=6))))
theorem Fy (k:Int) (i:Nat) (x:Tr):Cv k i x=((decide (k=10) ||alone x) && FE k i x):=by cases x;rfl
theorem FD (k:Int) (i:Nat) (x:Tr):(!FE k i x)=decide (k=6/\0<i/\x.kind≠10/\(i=1\/x.kind≠6)):=by
 unfold FE;rw[Bool.eq_iff_iff,Bool.not_eq_true',Bool.eq_false_iff];simp only[ne_eq,Bool.or_eq_true,Bool.and_eq_true,decide_eq_true_eq];omega
def IT (x:Tr):Prop:=∀(h:aA) (O:Nat->Prop) (v:Value),GA h->fq h O v x->ah Tryz.prog 32 #[v] h (cM fun r h'=>r= .bool (cU cN x)/\aC h h')
theorem yV (hs:IT x) (hg:GA h) (hv:fq h O v x):ah Tryz.prog 62 #[v] h (cM fun r h'=>r= .bool (cU cN x && alone x)/\aC h h'):=by
 cases x with
 |mk k t l =>
  obtain⟨w,rfl,hw⟩:=id hv.open;obtain⟨a,n,c,rfl,hws⟩:=id hw.open;have hn:l.length=n:=hws.len;refine ah.of func62 rfl rfl ?_;refine xr func62 rfl ?_;refine xo rfl (az.eR rfl) ?_;rintro _ h1 ⟨rfl,k1,e1,z1⟩;have k1:bh h1 h.size 25 (CU k t a n c):=k1;have hcall:=hs h1 O _ (hg.ax e1) (hv.mv (Mv.ax e1));refine aN 1 [0,1,2] rfl ?_;refine av rfl ?_;refine G.xm (fun(u:Unit) (h':aA)=>aC h1 h') (fun(u:Unit)=>[(2,.bool (cU cN (.mk k t l) && alone (.mk k t l)))]) [(0,_),(1,_)] ⟨rfl,rfl,trivial⟩ func62 rfl ?_ ?_
  · refine xp rfl (aj.aE H.bN H.aY rfl k1.row (by first|rfl|(simp;done)|(simp;omega))) ?_;refine xo rfl (aq (vs:=[_]) func32 rfl H.Jo rfl (ah.bq (hcall))) ?_;rintro _ h2 ⟨rfl,e2⟩;refine aV 1 rfl ?_;refine aL (d:=5) rfl (fun a=>?_) (fun a=>?_)
    · refine xp rfl (af (off:=0) underlying25 rfl rfl H.bV rfl) ?_;refine xp rfl (ai H.cK rfl ((k1.ax e2).cell (i:=0) rfl)) ?_;refine aV 2 rfl ?_;refine aL (d:=9) rfl (fun b=>?_) (fun b=>?_)
      · have b:¬k=7:=by simpa using b
        refine aV 7 rfl ?_;refine aD rfl ?_;exact⟨(),e2,aF rfl (by rw[a];unfold alone;rw[decide_eq_true (show Tr.kind (.mk k t l)≠7 from b)];rfl),rfl,rfl,trivial⟩
      · have b:k=7:=by simpa using b
        refine xp rfl (af (off:=2) underlying25 rfl rfl H.eX rfl) ?_;refine xp rfl (ai H.jm rfl ((k1.ax e2).cell (i:=2) rfl)) ?_;refine xp rfl (aj.aS underlying23 rfl) ?_;refine aV 4 rfl ?_;refine aD rfl ?_;exact⟨(),e2,aF rfl (by rw[a,Bool.true_and];unfold alone;rw[decide_eq_false (show ¬Tr.kind (.mk k t l)≠7 from fun q=>q b),Bool.false_or,<-hn,decide_eq_decide];show _↔l.length=2;omega),rfl,rfl,trivial⟩
    · refine aV 11 rfl ?_;refine aD rfl ?_;exact⟨(),e2,aF rfl (by rw[a];rfl),rfl,rfl,trivial⟩
  · rintro u h2 e2;refine G.ret func62 rfl rfl ?_;exact⟨_,rfl,rfl,e1.trans e2⟩
theorem yW (word:By->Bool) (k:Int) (i:Nat) (x:Tr) (l:List Tr):ir word k i (x::l)=((cU word x && Cv k i x) && ir word k (i+1) l):=by rw[ir]
theorem CW (word:By->Bool) (k:Int) (t:By) (l:List Tr):cU word (.mk k t l)=(iV word k t l.length && ir word k 0 l):=by rw[cU]
theorem Bb:∀(d:Nat) (x:Tr),x.dep<=d->x.wt<=1000000->IT x:=by
 intro d
 induction d with
 |zero=>intro x hx;cases x with|mk k t l=>simp[Tr.dep] at hx
 |succ d ih =>
 intro x hd hwt h O v hg hv;cases x with
 |mk k t l =>
  obtain⟨w,rfl,hw⟩:=id hv.open;obtain⟨a,n,c,rfl,hws⟩:=id hw.open;have hn:l.length=n:=hws.len;subst hn;have hcap:=hws.cap;have hle:=hws.le;simp only[maxLen] at hcap;have htl:=GB k t l;rw[CW];refine ah.of func32 rfl rfl ?_;refine xr func32 rfl ?_;refine xo rfl (az.eR rfl) ?_;rintro _ h1 ⟨rfl,k1,e1,z1⟩;have k1:bh h1 h.size 25 (CU k t a l.length c):=k1;refine aN 1 [0,1,2] rfl ?_;refine av rfl ?_;refine xr func32 rfl ?_;refine xp rfl (aj.aE H.bN H.aY rfl k1.row (by first|rfl|(simp;done)|(simp;omega))) ?_;refine xo rfl (aq (vs:=[_]) func61 rfl H.MM rfl (ah.bq (zD (hg.ax e1) k t a l.length c (by omega)))) ?_;rintro _ h2 ⟨rfl,e2⟩;have e02:=e1.trans e2;have k2:=k1.ax e2;refine aN 1 [0,1,2,7] rfl ?_;refine aJ rfl rfl (fun hs=>?_) (fun hs=>?_)
  · have hs:iV cN k t l.length=false:=by simpa using hs
    refine bf func32 1 [0,1,2,7] rfl ?_;refine G.ret func32 rfl rfl ?_;exact⟨_,rfl,by rw[hs];rfl,e02⟩
  · have hs:iV cN k t l.length=true:=by simpa using hs
    rw[hs,Bool.true_and];refine aB rfl ?_;refine av rfl ?_;refine xr func32 rfl ?_;refine xp rfl (af (off:=2) underlying25 rfl rfl H.eX rfl) ?_;refine xp rfl (ai H.jm rfl (k2.cell (i:=2) rfl)) ?_;refine xp rfl (aj.aS underlying23 rfl) ?_;refine aN 1 [0,1,2,7,9,10,11] rfl ?_;refine G.block rfl rfl ?_;refine bO (σ:=Nat) (fun i=>[(1,ptr h.size),(9,.slice a l.length c),(10,.int .i64 (l.length:Nat)),(11,.int .i64 (i:Nat))]) (fun i g=>i<=l.length/\aC h2 g/\ir cN k i (l.drop i)=ir cN k 0 l) (fun i=>l.length-i) (0) rfl ⟨rfl,rfl,rfl,rfl,trivial⟩ ⟨Nat.zero_le _,Ext.refl _ _,rfl⟩ ?_;rintro i g ⟨hi,eg,hq⟩ ihL;have kg:=k2.ax eg;have e0g:=e02.trans eg;refine bf func32 1 [1,9,10,11,12] rfl ?_;refine av rfl ?_;refine aM rfl rfl (fun hlt=>?_) (fun hlt=>?_)
    · have hil:i<l.length:=by omega
      have hwsg:=hws.mv (Mv.ax e0g);obtain⟨b,o,x,cs,ha,hob,hx,hrow,hR⟩:=Sl.nd hwsg hil;have hxm:x∈l:=List.mem_of_getElem? hx;have hxw:=IV (k:=k) (t:=t) hxm
      have hdr:l.drop i=x::l.drop (i+1):=by
       obtain⟨h1,h2⟩:=List.getElem?_eq_some_iff.1 hx;rw[List.drop_eq_getElem_cons h1,h2]
      rw[hdr,yW,Fy] at hq;obtain⟨xk,xt,xa,xn,xc,hcs,hR'⟩:=(fq.of hR).get;obtain rfl:cs=[.int .i64 xk,.string (bs xt),.slice xa xn xc]:=by have:=congrArg (fun v=>match v with|Value.agg cs=>cs.toList|_=>[]) hcs;simpa using this
      have hxk:xk=x.kind:=by cases x with|mk k' t' l'=>obtain⟨v',hv1,_⟩:=lf hR;cases hv1;rfl
      have hst:=ih x (by have:=Ht (k:=k) (t:=t) hxm;omega) (by omega);refine aB rfl ?_;refine av rfl ?_;refine G.block rfl rfl ?_;refine bl func32 1 rfl ?_;refine xp rfl (aj.aH underlying23 H.aY rfl rfl i rfl ha (by omega)) ?_;refine xp rfl (aj.aE H.bN H.aY rfl hrow (by first|rfl|(simp;done)|(simp;omega))) ?_;refine xo rfl (az.aQ H.fL) ?_;rintro _ g1 ⟨rfl,kn,e3,z3⟩;refine aV 1 rfl ?_;refine RW.bB rfl rfl rfl (az.au H.aY rfl rfl kn (by first|rfl|(simp;done)|(simp;omega)) (by first|decide|exact of_decide_eq_true rfl|(simp;done)|(simp;omega)) (kr)) ?_;rintro _ g2 ⟨rfl,kx,x2,z2⟩;have kx:bh g2 g.size 25 [.int .i64 xk,.string (bs xt),.slice xa xn xc]:=kx;have eg2:aC g g2:=aC.only e3 x2 (Nat.le_refl _);have kg2:=kg.ax eg2;have hg2:=hg.ax (e0g.trans eg2);have hnx:=(fq.of hR).mv (Mv.ax eg2);have hcs:=hst g2 O _ hg2 hnx;have hcv:=yV hst hg2 hnx;refine xd [1,3,4,9,10,11,12] rfl ?_;refine av rfl ?_;refine av rfl ?_;refine G.xm (fun(u:Unit) (h':aA)=>aC g2 h') (fun(u:Unit)=>[(33,.bool (!(cU cN x && (decide (k=10) ||alone x))))]) [(1,_),(3,_),(4,_),(9,_),(10,_),(11,_),(12,_)] ⟨rfl,rfl,rfl,rfl,rfl,rfl,rfl,trivial⟩ func32 rfl ?_ ?_
      · refine xp rfl (af (off:=0) underlying25 rfl rfl H.bV rfl) ?_;refine xp rfl (ai H.cK rfl (kg2.cell (i:=0) rfl)) ?_;refine aV 2 rfl ?_;refine aL (d:=19) rfl (fun p=>?_) (fun p=>?_)
        · have p:=of_decide_eq_true p;refine xp rfl (aj.aE H.bN H.aY rfl kx.row (by first|rfl|(simp;done)|(simp;omega))) ?_;refine xo rfl (aq (vs:=[_]) func32 rfl H.Jo rfl (ah.bq (hcs))) ?_;rintro _ g3 ⟨rfl,e4⟩;refine aV 3 rfl ?_;refine aL (d:=24) rfl (fun q=>?_) (fun q=>?_)
          · refine aV 9 rfl ?_;refine aD rfl ?_;exact⟨(),e4,aF rfl (by have q:cU cN x=false:=by { simpa using q };rw[q];rfl),rfl,rfl,rfl,rfl,rfl,rfl,rfl,trivial⟩
          · have q:cU cN x=true:=by simpa using q
            refine xp rfl (af (off:=0) underlying25 rfl rfl H.bV rfl) ?_;refine xp rfl (ai H.cK rfl ((kg2.ax e4).cell (i:=0) rfl)) ?_;refine aV 2 rfl ?_;refine RW.cS (d:=28) (b':=false) rfl ((by rw[p];rfl)) ?_;refine aV 5 rfl ?_;refine aD rfl ?_;exact⟨(),e4,aF rfl (by rw[q,decide_eq_true p];rfl),rfl,rfl,rfl,rfl,rfl,rfl,rfl,trivial⟩
        · have p:=of_decide_eq_false p;refine cI 5 rfl rfl (af (off:=0) underlying25 rfl rfl H.bV rfl) ?_;refine RW.cS (d:=24) (b':=false) rfl (rfl) ?_;refine xp rfl (ai H.cK rfl (kg2.cell (i:=0) rfl)) ?_;refine aV 2 rfl ?_;refine RW.cS (d:=28) (b':=true) rfl ((by simpa using p)) ?_;refine xp rfl (aj.aE H.bN H.aY rfl kx.row (by first|rfl|(simp;done)|(simp;omega))) ?_;refine xo rfl (aq (vs:=[_]) func62 rfl H.ML rfl (ah.bq (hcv))) ?_;rintro _ g3 ⟨rfl,e4⟩;refine aV 3 rfl ?_;refine aD rfl ?_;exact⟨(),e4,aF rfl (by rw[decide_eq_false p,Bool.false_or]),rfl,rfl,rfl,rfl,rfl,rfl,rfl,trivial⟩
      · rintro u g3 e4;have kg3:=kg2.ax e4;have kx3:=kx.ax e4;refine aJ rfl rfl (fun hb=>?_) (fun hb=>?_)
        · have hb:(cU cN x && (decide (k=10) ||alone x))=false:=by rw[Bool.not_eq_true'] at hb;exact hb
          refine bf func32 1 [1,2,3,4,9,10,11,12,33] rfl ?_;refine G.ret func32 rfl rfl ?_;refine⟨_,rfl,?_,(e0g.trans eg2).trans e4⟩;rw[<-hq,<-Bool.and_assoc,hb];rfl
        · have hb:(cU cN x && (decide (k=10) ||alone x))=true:=by rw[Bool.not_eq_false'] at hb;exact hb
          rw[<-Bool.and_assoc,hb,Bool.true_and] at hq;refine aB rfl ?_;refine av rfl ?_;refine G.bw [(54,.bool (decide (k=6/\0<i/\xk≠10/\(i=1\/xk≠6))))] [(1,_),(3,_),(4,_),(9,_),(10,_),(11,_),(12,_),(33,_)] ⟨rfl,rfl,rfl,rfl,rfl,rfl,rfl,rfl,trivial⟩ func32 rfl ?_ ?_
          · refine xp rfl (af (off:=0) underlying25 rfl rfl H.bV rfl) ?_;refine xp rfl (ai H.cK rfl (kg3.cell (i:=0) rfl)) ?_;refine aV 2 rfl ?_;refine aL (d:=37) rfl (fun p=>?_) (fun p=>?_)
            · have p:=of_decide_eq_true p;refine aV 4 rfl ?_;refine aL (d:=41) rfl (fun q=>?_) (fun q=>?_)
              · have q:=of_decide_eq_true q;refine xp rfl (af (off:=0) underlying25 rfl rfl H.bV rfl) ?_;refine xp rfl (ai H.cK rfl (kx3.cell (i:=0) rfl)) ?_;refine aV 3 rfl ?_;refine aL (d:=46) rfl (fun r=>?_) (fun r=>?_)
                · have r:¬xk=10:=by simpa using r
                  refine aV 3 rfl ?_;refine aL (d:=49) rfl (fun s=>?_) (fun s=>?_)
                  · have s:=of_decide_eq_true s;refine aV 5 rfl ?_;refine aD rfl ?_;exact⟨rfl,aF rfl (by rw[decide_eq_true (by omega)]),rfl,rfl,rfl,rfl,rfl,rfl,rfl,rfl,trivial⟩
                  · have s:=of_decide_eq_false s;refine xp rfl (af (off:=0) underlying25 rfl rfl H.bV rfl) ?_;refine xp rfl (ai H.cK rfl (kx3.cell (i:=0) rfl)) ?_;refine aV 3 rfl ?_;refine aD rfl ?_;exact⟨rfl,aF rfl (by rw[decide_eq_decide];omega),rfl,rfl,rfl,rfl,rfl,rfl,rfl,rfl,trivial⟩
                · have r:xk=10:=by simpa using r
                  refine aV 8 rfl ?_;refine aD rfl ?_;exact⟨rfl,aF rfl (by rw[decide_eq_false (by omega)]),rfl,rfl,rfl,rfl,rfl,rfl,rfl,rfl,trivial⟩
              · have q:=of_decide_eq_false q;refine aV 13 rfl ?_;refine aD rfl ?_;exact⟨rfl,aF rfl (by rw[decide_eq_false (by omega)]),rfl,rfl,rfl,rfl,rfl,rfl,rfl,rfl,trivial⟩
            · have p:=of_decide_eq_false p;refine aV 17 rfl ?_;refine aD rfl ?_;exact⟨rfl,aF rfl (by rw[decide_eq_false (by omega)]),rfl,rfl,rfl,rfl,rfl,rfl,rfl,rfl,trivial⟩
          · rw[hxk,<-FD];refine aJ rfl rfl (fun hb2=>?_) (fun hb2=>?_)
            · have hb2:FE k i x=false:=by simpa using hb2
              refine bf func32 1 [1,2,3,4,9,10,11,12,33,54] rfl ?_;refine G.ret func32 rfl rfl ?_;exact⟨_,rfl,by rw[<-hq,hb2];rfl,(e0g.trans eg2).trans e4⟩
            · have hb2:FE k i x=true:=by simpa using hb2
              rw[hb2,Bool.true_and] at hq;refine aB rfl ?_;refine G.aR ?_;refine G.cz func32 rfl ?_;refine xp rfl (aj.bJ rfl rfl ⟨by omega,by omega⟩) ?_;refine aN 1 [1,3,4,9,10,11,12,33,54] rfl ?_;exact ihL (i+1) _ _ ⟨rfl,rfl,rfl,rfl,trivial⟩ ⟨hil,(eg.trans eg2).trans e4,hq⟩ (by omega)
    · obtain rfl:i=l.length:=by omega
      rw[List.drop_length] at hq;refine bD rfl rfl ?_;refine bf func32 1 [1,2,9,10,11,12] rfl ?_;refine G.ret func32 rfl rfl ?_;exact⟨_,rfl,by rw[<-hq];rfl,e0g⟩
theorem qN (hw:x.wt<=1000000) (hg:GA h) (hv:fq h O v x):ah Tryz.prog 13 #[v] h (cM fun r h'=>r= .bool (cU cN x)/\aC h h'):=by
 obtain⟨k,t,a,n,c,rfl,hR⟩:=id hv.get;refine ah.of func13 rfl rfl ?_;refine xr func13 rfl ?_;refine xo rfl (az.eR rfl) ?_;rintro _ h1 ⟨rfl,k1,e1,z1⟩;have hcall:=Bb _ x (Nat.le_refl _) hw h1 O _ (hg.ax e1) (hv.mv (Mv.ax e1));refine aN 1 [0,1,2] rfl ?_;refine xr func13 rfl ?_;refine xp rfl (aj.aE H.bN H.aY rfl k1.row (by first|rfl|(simp;done)|(simp;omega))) ?_;refine xo rfl (aq (vs:=[_]) func32 rfl H.Jo rfl (ah.bq (hcall))) ?_;rintro _ h2 ⟨rfl,e2⟩;refine aN 1 [0,1,2] rfl ?_;refine G.ret func13 rfl rfl ?_;exact⟨_,rfl,rfl,e1.trans e2⟩
theorem Jr {a:Option Addr}{n c:Nat}(hws:Sl eN h O a n c l) (hi:i<n) :
 ∃b o x xk xt xa xn xc,a=some ⟨b,o,none⟩/\l[i]? =some x/\Lw.rowAt h b (o+i*3) (CU xk xt xa xn xc)/\fq h O (.agg #[.int .i64 xk,.string (bs xt),.slice xa xn xc]) x/\xk=x.kind/\¬O b:=by
 obtain⟨b,o,x,cs,ha,hob,hx,hrow,hR⟩:=Sl.nd hws hi;cases x with
 |mk k t m =>
  obtain⟨v,rfl,hs⟩:=lf hR;obtain⟨xa,xn,xc,rfl,_⟩:=id hs.open;exact⟨b,o,_,k,t,xa,xn,xc,ha,hx,hrow,fq.of hR,rfl,hob⟩
structure oK (hb:aA) (rb B:Nat) (O:Nat->Prop) (h:aA) (m:Nat) (ev:Value) (env:List Bd):Prop where
 ext:aC hb h
 blk:bh h rb 99 [.int .i64 (2000-(m:Int))]
 lt:∀b,O b->b<h.size
 own:O rb
 en:bX eB h O ev env
 ok:vj (B-2*m) env
 mB:2*m<=B
 mL:m<=2000
 hB:B<=1000000
 hrb:hb.size<=rb
def IU (rb:Nat) (O:Nat->Prop) (h:aA) (o:Out) (r:Value) (h':aA):Prop:=∃v,r=packed [v,.int .i64 o.2.1]/\dz h' O v o.1/\bh h' rb 99 [.int .i64 (2000-(o.2.2:Int))]/\Ext (fun b=>b=rb) h h'
def JL (hb:aA) (rb B d:Nat):Prop:=∀{O:Nat->Prop}{h:aA}{m:Nat}{ev nv:Value}{env:List Bd}{n:Tr},oK hb rb B O h m ev env->m<=d->fq h O nv n->Cl cN n->n.wt<=1000000 ->
 ah Tryz.prog 36 #[.pointer (some ⟨rb,0,none⟩),ev,nv] h (cM fun r h'=>IU rb O h (bE d m env n) r h')
def iP (h:aA) (O O':Nat->Prop):Prop:=(∀b,O b->O' b)/\∀b,O' b->O b\/h.size<=b
theorem iP.mv (k:iP h O O') (ho:O rb) (e:Ext (fun b=>b=rb) h h'):Mv O O' h h' :=
 Mv.cY e fun b hb hn=>⟨fun q=>hn (q▸ho),fun q=>(k.2 b q).elim hn (fun q=>by omega)⟩
theorem iP.qV (k:iP h O O') (e:aC h h'):Mv O O' h h' :=
 ⟨e.size,fun b hb hn=>⟨e.block b hb (fun k=>k),fun q=>(k.2 b q).elim hn (fun q=>by omega)⟩⟩
theorem D8 {h:aA}(k:∀b,O b->O' b) (g:aA):Mv O' O g g:=⟨Nat.le_refl _,fun b _ hn=>⟨rfl,fun q=>hn (k b q)⟩⟩
theorem oK.next {m':Nat}(I:oK hb rb B O h m ev env) (k:iP h O O') (hm:m'<=m) (e:Ext (fun b=>b=rb) h h') (b:bh h' rb 99 [.int .i64 (2000-(m':Int))])
 (hl:∀b,O' b->b<h'.size):oK hb rb B O' h' m' ev env :=
 ⟨⟨by have:=I.ext.size;have:=e.size;omega,fun b hb _=>(e.block b (by have:=I.ext.size;omega) (by have:=I.hrb;omega)).trans (I.ext.block b hb (fun k=>k))⟩,b,hl,k.1 _ I.own,I.en.mv (k.mv I.own e),ie I.ok hm,by have:=I.mB;omega,by have:=I.mL;omega,I.hB,I.hrb⟩
theorem oK.vV (I:oK hb rb B O h m ev env) (k:iP h O O') (e:aC h h') (hl:∀b,O' b->b<h'.size):oK hb rb B O' h' m ev env :=
 I.next k (Nat.le_refl _) (e.mono fun _ _ q=>q.elim) (I.blk.ax e) hl
theorem oK.AS (I:oK hb rb B O h m ev env):rb<h.size:=I.blk.lt
abbrev upTo (O:Nat->Prop) (h h':aA):Nat->Prop:=fun b=>O b\/(h.size<=b/\b<h'.size)
theorem cW (O:Nat->Prop) (h h':aA):iP h O (upTo O h h'):=⟨fun _ q=>.inl q,fun _ q=>q.imp id And.left⟩
theorem iH (hl:∀b,O b->b<h.size) (hz:h.size<=h'.size):∀b,upTo O h h' b->b<h'.size:=fun b q=>by
 rcases q with q|q
 · have:=hl b q;omega
 · exact q.2
theorem mg {k:Int}(q:fq h O v (.mk k t l)):∃a n c,v= .agg #[.int .i64 k,.string (bs t),.slice a n c]/\eN.R h O [.int .i64 k,.string (bs t),.slice a n c] (.mk k t l)/\Sl eN h O a n c l:=by
 obtain⟨cs,rfl,hR⟩:=q;obtain⟨w,rfl,hs⟩:=lf hR;obtain⟨a,n,c,rfl,hk⟩:=hs.open;exact⟨a,n,c,rfl,hR,hk⟩
theorem getD_at (h:l[i]? =some x):l.getD i cP=x:=by rw[List.getD_eq_getElem?_getD,h];rfl
theorem ux {k:Int}(h:Cl cN (.mk k t l)) (hk:k≠0):(eZ k).1<=l.length/\l.length<=(eZ k).2:=by
 rcases h with h|h
 · rw[V,cU,Bool.and_eq_true] at h;have h1:=h.1;unfold iV at h1;simp only[Bool.and_eq_true,decide_eq_true_eq] at h1;exact⟨h1.1,h1.2.1⟩
 · cases h;exact absurd rfl hk
theorem cX {O3:Nat->Prop}{g g':aA}{b6:Nat}(hO:∀b,O b->O3 b) (h6:O3 b6) (x:Ext (fun b=>b=b6) g g'):Mv O3 O g g':=Mv.cY x fun b _ hn=>⟨fun q=>hn (q▸h6),fun q=>hn (hO b q)⟩
theorem gE {a:Option Addr}{n c:Nat}(hws:Sl eN h O a n c l) (hi:i<n) :
 ∃b o xk xt xa xn xc,a=some ⟨b,o,none⟩/\(¬O b/\b<h.size)/\Lw.rowAt h b (o+i*3) (CU xk xt xa xn xc)/\fq h O (.agg #[.int .i64 xk,.string (bs xt),.slice xa xn xc]) (l.getD i cP):=by
 obtain⟨b,o,x,xk,xt,xa,xn,xc,ha,hx,hr,hR,_,hO⟩:=Jr hws hi;exact⟨b,o,xk,xt,xa,xn,xc,ha,⟨hO,dW hr (by simp)⟩,hr,by rw[getD_at hx];exact hR⟩
theorem Dx (ih:JL hb rb B d) (I:oK hb rb B O h m ev env) (hm:m<=d) (hn:fq h O nv (.mk 7 t l)) (hc:Cl cN (.mk 7 t l)) (hw:(Tr.mk 7 t l).wt<=1000000) :
 ah Tryz.prog 74 #[.pointer (some ⟨rb,0,none⟩),ev,nv] h (cM fun r h'=>IU rb O h (G1 (bE d) m env t l) r h'):=by
 obtain⟨na,nn,nc,rfl,hR,hks⟩:=mg hn;have hkn:=hks.len;subst hkn;obtain⟨hl1,hl2⟩:=ux hc (by decide);have hl1:1<=l.length:=hl1;have hl2:l.length<=2:=hl2;obtain⟨b0,o0,k0,t0,a0,n0,c0,ha0,hb0,hr0,hk0⟩:=gE hks (i:=0) (by omega);have hrl:=I.AS;refine ah.of func74 rfl rfl ?_;refine xr func74 rfl ?_;refine xo rfl (az.eR rfl) ?_;rintro _ h1 ⟨rfl,k5,e1,z1⟩;refine xo rfl (az.aQ H.gw) ?_;rintro _ h2 ⟨rfl,k6,e2,z2⟩;have e12:=e1.trans e2;have k5:bh h2 h.size 25 [.int .i64 7,.string (bs t),.slice na l.length nc]:=k5.ax e2;have m2:=cW O h h2;have I2:=I.vV m2 e12 (iH I.lt e12.size);have o1:=iL B d m env (l.getD 0 cP) I.mB I.ok (de hw 0);have hih:=ih I2 hm (hk0.mv (m2.qV e12)) (hc.wu 0) (de hw 0);unfold G1;generalize bE d m env (l.getD 0 cP)=o at hih o1 ⊢;obtain⟨v,e,m'⟩:=o;obtain⟨hm',hvk,hlt⟩:=o1;dsimp only at hm' hvk hlt ⊢;refine aN 1 [0,1,2,5,6,7] rfl ?_;refine bl func74 2 rfl ?_;refine xp rfl (af (off:=2) underlying25 rfl rfl H.eX rfl) ?_;refine xp rfl (ai H.jm rfl (k5.cell (i:=2) rfl)) ?_;refine xp rfl (aj.aH underlying23 H.aY rfl rfl 0 rfl ha0 (by omega)) ?_;refine xp rfl (aj.aE H.bN H.aY rfl (e12.rowAt (fun k=>k) hr0) (by first|rfl|(simp;done)|(simp;omega))) ?_;refine xo rfl (aq (vs:=[_,_,_]) func36 rfl H.n7 rfl (ah.bq (hih))) ?_;rintro _ h3 ⟨v3,rfl,hv3,b3,e3⟩;dsimp only at hv3 b3;obtain⟨nk,nt,xa,xn,xc,ea,en,ec,rfl,_,hR3,_⟩:=dz.get hv3;refine aV 3 rfl ?_;refine xo rfl (az.aQ H.gw) ?_;rintro _ h4 ⟨rfl,k8,e4,z4⟩;refine RW.bB rfl rfl rfl (az.au H.aW rfl rfl k8 (by first|rfl|(simp;done)|(simp;omega)) (by first|decide|exact of_decide_eq_true rfl|(simp;done)|(simp;omega)) (gm)) ?_;rintro _ h5 ⟨rfl,k85,x5,z5⟩;have k85:bh h5 h3.size 52 (kI v.kind v.num v.iu v.self nk nt xa xn xc ea en ec):=k85;have e35:aC h3 h5:=aC.only e4 x5 (Nat.le_refl _);have E25:Ext (fun b=>b=rb) h2 h5:=e3.trans (e35.mono fun _ _ q=>q.elim);have E05:Ext (fun b=>b=rb) h h5:=(e12.mono fun _ _ q=>q.elim).trans E25;have zz:=And.intro e3.size (And.intro e35.size e12.size);have m23:=cW (upTo O h h2) h3 h5;obtain⟨O3,hO3⟩:∃O3,O3=upTo (upTo O h h2) h3 h5:=⟨_,rfl⟩
 have l3:∀b,O3 b->b<h5.size:=fun b q=>by
  rw[hO3] at q
  rcases q with (q|q)|q
  · have:=I.lt b q;omega
  · omega
  · omega
 have m3:iP h O O3:=by
  rw[hO3]
  exact⟨fun b q=>.inl (.inl q),fun b q=>by
   rcases q with (q|q)|q
   · exact .inl q
   · exact .inr q.1
   · exact .inr (by omega)⟩
 have b5:=b3.ax e35;have hR5:=eV.mv hR3 (m23.qV e35);rw[<-hO3] at hR5;have o6:O3 h1.size:=by rw[hO3];exact .inl (.inr (by omega))
 have k55:=k5.ext E25 (by omega);have k65:=k6.ext E25 (by omega);refine aN 1 [0,1,2,5,6,7,8,9] rfl ?_;refine av rfl ?_;refine av rfl ?_;refine G.bw [(27,.bool (decide (e≠0\/l.length=1)))] [(0,_),(1,_),(2,_),(5,_),(6,_),(7,_),(8,_),(9,_)] ⟨rfl,rfl,rfl,rfl,rfl,rfl,rfl,rfl,trivial⟩ func74 rfl ?_ ?_
 · refine aV 3 rfl ?_;refine aL (d:=22) rfl (fun p=>?_) (fun p=>?_)
   · have p:=of_decide_eq_true p;refine aV 5 rfl ?_;refine aD rfl ?_;exact⟨rfl,aF rfl (by rw[decide_eq_true (.inl p)]),rfl,rfl,rfl,rfl,rfl,rfl,rfl,rfl,trivial⟩
   · have p:=of_decide_eq_false p;refine xp rfl (af (off:=2) underlying25 rfl rfl H.eX rfl) ?_;refine xp rfl (ai H.jm rfl (k55.cell (i:=2) rfl)) ?_;refine xp rfl (aj.aS underlying23 rfl) ?_;refine aV 2 rfl ?_;refine aD rfl ?_;exact⟨rfl,aF rfl (by rw[decide_eq_decide];exact⟨fun q=>.inr (by omega),fun q=>by have:=q.resolve_left p;omega⟩),rfl,rfl,rfl,rfl,rfl,rfl,rfl,rfl,trivial⟩
 · refine aJ rfl rfl (fun hx=>?_) (fun hx=>?_)
   · have hx:=of_decide_eq_true hx;refine xr func74 rfl ?_;refine xp rfl (aj.aE H.bR H.aW rfl k85.row (by first|rfl|(simp;done)|(simp;omega))) ?_;refine aV 1 rfl ?_;refine RW.bB rfl rfl rfl (az.au H.aW rfl rfl k65 (by first|rfl|(simp;done)|(simp;omega)) (by first|decide|exact of_decide_eq_true rfl|(simp;done)|(simp;omega)) (gm)) ?_;rintro _ h6 ⟨rfl,k66,x6,z6⟩;refine aN 1 [0,1,2,5,6,7,8,9,27] rfl ?_;refine G.br func74 rfl (.cons (aI.bp H.bR H.aW rfl (k66.row) (by first|rfl|(simp;done)|(simp;omega))) (.cons (aI.tmp rfl) (.nil))) ?_;rw[if_pos hx];exact⟨_,rfl,_,rfl,dz.of (eV.mv hR5 (cX m3.1 o6 x6)),b5.ext x6 (by omega),E05.ct x6 (fun b hb q=>by omega)⟩
   · have hx:=of_decide_eq_false hx;rw[if_neg hx];have he0:e=0:=Classical.byContradiction fun q=>hx (.inl q)
     obtain⟨b1,o1',k1,t1,a1,n1,c1,ha1,hb1,hr1,hk1⟩:=gE hks (i:=1) (by omega);have hb1r:b1≠rb:=fun q=>hb1.1 (q▸I.own)
     have hMk:¬(h.size=rb\/h5.size<=h.size):=by omega
     have hM8:¬(h3.size=rb\/h5.size<=h3.size):=by have:=I2.AS;omega
     have hM1:¬(b1=rb\/h5.size<=b1):=by omega
     have hr1':=E05.rowAt hb1r hr1;refine aB rfl ?_;refine av rfl ?_;refine bQ (fun b=>b=rb\/h5.size<=b) (fun i=>Nat.blt i 16) (sz:=18) (listed:= #[false,false,false,false,false,false,false,false,false,false,false,false,false,false,false,false,false,false]) func74 H.mixed rfl rfl rfl ?_;refine cu 0 1 (by kernel_rfl) rfl ?_;refine cu 1 3 (by kernel_rfl) rfl ?_;refine bP 2 7 (by kernel_rfl) rfl (fun h' e=>af (off:=1) underlying25 rfl rfl H.eG rfl) ?_;refine bP 3 15 (by kernel_rfl) rfl (fun h' e=>ai H.fu rfl (e.cell hMk (k55.cell (i:=1) rfl))) ?_;refine bP 4 31 (by kernel_rfl) rfl (fun h' e=>aj.aE H.bR H.aW rfl (e.rowAt hM8 k85.row) (by first|rfl|(simp;done)|(simp;omega))) ?_;refine bP 5 63 (by kernel_rfl) rfl (fun h' e=>af (off:=1) underlying25 rfl rfl H.eG rfl) ?_;refine bP 6 127 (by kernel_rfl) rfl (fun h' e=>ai H.fu rfl (e.cell hMk (k55.cell (i:=1) rfl))) ?_;refine bP 9 639 (by kernel_rfl) rfl (fun h' e=>af (off:=2) underlying25 rfl rfl H.eX rfl) ?_;refine bP 10 1663 (by kernel_rfl) rfl (fun h' e=>ai H.jm rfl (e.cell hMk (k55.cell (i:=2) rfl))) ?_;refine bP 11 3711 (by kernel_rfl) rfl (fun h' e=>aj.aH underlying23 H.aY rfl rfl 1 rfl ha1 (by omega)) ?_;refine bP 12 7807 (by kernel_rfl) rfl (fun h' e=>aj.aE H.bN H.aY rfl (e.rowAt hM1 hr1') (by first|rfl|(simp;done)|(simp;omega))) ?_;refine dZ 7 7935 (by kernel_rfl) rfl (aq (vs:=[_,_]) func117 rfl H.Iu rfl (ah.bq (vR (dz.of hR5) t))) ?_;rintro r6 h6 ⟨hv6,e6⟩;refine⟨fun _=>e6.of,?_⟩;have hen6:bX eB h6 O3 ev env:=I.en.mv (m3.mv I.own (E05.trans (e6.mono fun _ _ q=>q.elim)));have hel:env.length<=1000000:=by have:=I.ok.1;have:=I.hB;omega
     refine dZ 8 8191 (by kernel_rfl) rfl (aq (vs:=[_,_,_]) func118 rfl H.zT rfl (ah.bq (iR hen6 hel t hv6))) ?_;rintro r7 h7 ⟨ho7,e7⟩;refine⟨fun _=>e7.of,?_⟩;have e57:=e6.trans e7;have E07:=E05.trans (e57.mono fun _ _ q=>q.elim);have zy:=And.intro e6.size e7.size
     have I7:oK hb rb B O3 h7 m' r7 (env++[(t,lZ v t)]):=⟨⟨by have:=I.ext.size;omega,fun b hb _=>(E07.block b (by have:=I.ext.size;omega) (by have:=I.hrb;omega)).trans (I.ext.block b hb (fun k=>k))⟩,b5.ax e57,fun b q=>by have:=l3 b q;omega,m3.1 _ I.own,
      ho7.read (fun b hb q=>by have:=l3 b q;omega) (fun _ _ q=>q),kq I.ok (hlt he0) I.mB (mW hvk t) t,by have:=I.mB;omega,by have:=I.mL;omega,I.hB,I.hrb⟩
     refine dZ 13 16383 (by kernel_rfl) rfl (aq (vs:=[_,_,_]) func36 rfl H.n7 rfl (ah.bq ((ih I7 (by omega) (hk1.mv (m3.mv I.own E07)) (hc.wu 1) (de hw 1))))) ?_;rintro _ h8 ⟨v8,rfl,hv8,b8,e8⟩;refine⟨fun _=>e8.mono (fun b _ q=>.inl q),?_⟩;obtain⟨nk',nt',xa',xn',xc',ea',en',ec',rfl,_,hR8,_⟩:=dz.get hv8;have E58:=(e57.mono fun _ _ q=>q.elim).trans e8;refine cu 14 32767 (by kernel_rfl) rfl ?_;refine cu 15 65535 (by kernel_rfl) rfl ?_;refine jG 16 131071 (by kernel_rfl) rfl (az.au H.aW rfl rfl (k65.ext E58 (by omega)) (by first|rfl|(simp;done)|(simp;omega)) (by first|decide|exact of_decide_eq_true rfl|(simp;done)|(simp;omega)) (gm)) ?_;rintro _ h9 ⟨rfl,k9,x9,z9⟩;refine⟨fun hk=>(nomatch hk),?_⟩;refine cu 17 262143 (by kernel_rfl) rfl ?_;refine bu (by kernel_rfl) ?_;refine xu [0,1,2,5,6,7,8,9,27] rfl ?_;refine G.br func74 rfl (.cons (aI.bp H.bR H.aW rfl (k9.row) (by first|rfl|(simp;done)|(simp;omega))) (.cons (aI.tmp rfl) (.nil))) ?_;exact⟨_,rfl,_,rfl,dz.of (eV.mv hR8 (cX m3.1 o6 x9)),b8.ext x9 (by omega),(E07.trans e8).ct x9 (fun b hb q=>by omega)⟩
theorem ym (ih:JL hb rb B d) (I:oK hb rb B O h m ev env) (hm:m<=d) (hn:fq h O nv (.mk 6 t l)) (hc:Cl cN (.mk 6 t l)) (hw:(Tr.mk 6 t l).wt<=1000000) :
 ah Tryz.prog 75 #[.pointer (some ⟨rb,0,none⟩),ev,nv] h (cM fun r h'=>IU rb O h (L7 (bE d) m env l) r h'):=by
 obtain⟨na,nn,nc,rfl,hR,hks⟩:=mg hn;have hkn:=hks.len;subst hkn;obtain⟨hl1,hl2⟩:=ux hc (by decide);have hl1:3<=l.length:=hl1;obtain⟨b0,o0,k0,t0,a0,n0,c0,ha0,hb0,hr0,hk0⟩:=gE hks (i:=0) (by omega);have hrl:=I.AS;refine ah.of func75 rfl rfl ?_;refine xr func75 rfl ?_;refine xo rfl (az.eR rfl) ?_;rintro _ h1 ⟨rfl,k5,e1,z1⟩;refine xo rfl (az.aQ H.gw) ?_;rintro _ h2 ⟨rfl,k6,e2,z2⟩;have e12:=e1.trans e2;have k5:bh h2 h.size 25 [.int .i64 6,.string (bs t),.slice na l.length nc]:=k5.ax e2;have m2:=cW O h h2;have I2:=I.vV m2 e12 (iH I.lt e12.size);have o1:=iL B d m env (l.getD 0 cP) I.mB I.ok (de hw 0);have hih:=ih I2 hm (hk0.mv (m2.qV e12)) (hc.wu 0) (de hw 0);unfold L7;generalize bE d m env (l.getD 0 cP)=o at hih o1 ⊢;obtain⟨v,e,m'⟩:=o;obtain⟨hm',hvk,hlt⟩:=o1;dsimp only at hm' hvk hlt ⊢;refine aN 1 [0,1,2,5,6,7] rfl ?_;refine bl func75 2 rfl ?_;refine xp rfl (af (off:=2) underlying25 rfl rfl H.eX rfl) ?_;refine xp rfl (ai H.jm rfl (k5.cell (i:=2) rfl)) ?_;refine xp rfl (aj.aH underlying23 H.aY rfl rfl 0 rfl ha0 (by omega)) ?_;refine xp rfl (aj.aE H.bN H.aY rfl (e12.rowAt (fun k=>k) hr0) (by first|rfl|(simp;done)|(simp;omega))) ?_;refine xo rfl (aq (vs:=[_,_,_]) func36 rfl H.n7 rfl (ah.bq (hih))) ?_;rintro _ h3 ⟨v3,rfl,hv3,b3,e3⟩;dsimp only at hv3 b3;obtain⟨nk,nt,xa,xn,xc,ea,en,ec,rfl,hbd3,hR3,hen3⟩:=dz.get hv3;refine aV 3 rfl ?_;refine xo rfl (az.aQ H.gw) ?_;rintro _ h4 ⟨rfl,k8,e4,z4⟩;refine RW.bB rfl rfl rfl (az.au H.aW rfl rfl k8 (by first|rfl|(simp;done)|(simp;omega)) (by first|decide|exact of_decide_eq_true rfl|(simp;done)|(simp;omega)) (gm)) ?_;rintro _ h5 ⟨rfl,k85,x5,z5⟩;have k85:bh h5 h3.size 52 (kI v.kind v.num v.iu v.self nk nt xa xn xc ea en ec):=k85;have e35:aC h3 h5:=aC.only e4 x5 (Nat.le_refl _);have E25:Ext (fun b=>b=rb) h2 h5:=e3.trans (e35.mono fun _ _ q=>q.elim);have E05:Ext (fun b=>b=rb) h h5:=(e12.mono fun _ _ q=>q.elim).trans E25;have zz:=And.intro e3.size (And.intro e35.size e12.size);have m23:=cW (upTo O h h2) h3 h5;obtain⟨O3,hO3⟩:∃O3,O3=upTo (upTo O h h2) h3 h5:=⟨_,rfl⟩
 have l3:∀b,O3 b->b<h5.size:=fun b q=>by
  rw[hO3] at q
  rcases q with (q|q)|q
  · have:=I.lt b q;omega
  · omega
  · omega
 have m3:iP h O O3:=by
  rw[hO3]
  exact⟨fun b q=>.inl (.inl q),fun b q=>by
   rcases q with (q|q)|q
   · exact .inl q
   · exact .inr q.1
   · exact .inr (by omega)⟩
 have b5:=b3.ax e35;have hR5:=eV.mv hR3 (m23.qV e35);rw[<-hO3] at hR5;have hbd5:=eN.mv hbd3 (m23.qV e35);rw[<-hO3] at hbd5;have hen5:=hen3.mv (m23.qV e35);rw[<-hO3] at hen5;have o6:O3 h1.size:=by rw[hO3];exact .inl (.inr (by omega))
 have k55:=k5.ext E25 (by omega);have k65:=k6.ext E25 (by omega);have I5:oK hb rb B O3 h5 m' ev env:=I.next m3 hm' E05 b5 l3
 refine aN 1 [0,1,2,5,6,7,8,9] rfl ?_;refine av rfl ?_;refine G.block rfl rfl ?_;refine bf func75 3 [0,1,2,5,6,7,8,9,20] rfl ?_;refine aM rfl rfl (fun he=>?_) (fun he=>?_)
 · rw[if_pos he];refine xr func75 rfl ?_;refine xp rfl (aG (H.eo ) rfl) ?_;refine aV 1 rfl ?_;refine RW.bB rfl rfl rfl (az.au H.aW rfl rfl k65 (by first|rfl|(simp;done)|(simp;omega)) (by first|decide|exact of_decide_eq_true rfl|(simp;done)|(simp;omega)) (by first|decide|simp[Value.oneCell'])) ?_;rintro _ h6 ⟨rfl,k66,x6,z6⟩;refine aN 1 [0,1,2,5,6,7,8,9,20] rfl ?_;refine G.br func75 rfl (.cons (aI.bp H.bR H.aW rfl (k66.row) (by first|rfl|(simp;done)|(simp;omega))) (.cons (aI.tmp rfl) (.nil))) ?_;exact⟨_,rfl,_,rfl,gI _ _,b5.ext x6 (by omega),E05.ct x6 (fun b hb q=>by omega)⟩
 · rw[if_neg he];refine xr func75 rfl ?_;refine xp rfl (af (off:=0) underlying52 rfl rfl H.bV rfl) ?_;refine xp rfl (ai H.cK rfl (k85.cell (i:=0) rfl)) ?_;refine aN 2 [0,1,2,5,6,7,8,9,20,25] rfl ?_;refine aM rfl rfl (fun hk=>?_) (fun hk=>?_)
   · rw[if_pos hk];refine xr func75 rfl ?_;refine xp rfl (aG (H.eo ) rfl) ?_;refine RW.bB rfl rfl rfl (az.au H.aW rfl rfl k65 (by first|rfl|(simp;done)|(simp;omega)) (by first|decide|exact of_decide_eq_true rfl|(simp;done)|(simp;omega)) (by first|decide|simp[Value.oneCell'])) ?_;rintro _ h6 ⟨rfl,k66,x6,z6⟩;refine aN 1 [0,1,2,5,6,7,8,9,20,25] rfl ?_;refine G.br func75 rfl (.cons (aI.bp H.bR H.aW rfl (k66.row) (by first|rfl|(simp;done)|(simp;omega))) (.cons (aI.tmp rfl) (.nil))) ?_;exact⟨_,rfl,_,rfl,gI _ _,b5.ext x6 (by omega),E05.ct x6 (fun b hb q=>by omega)⟩
   · rw[if_neg hk];refine xr func75 rfl ?_;refine xp rfl (af (off:=1) underlying52 rfl rfl H.Cb rfl) ?_;refine xp rfl (ai H.CL rfl (k85.cell (i:=1) rfl)) ?_;refine aN 2 [0,1,2,5,6,7,8,9,20,25,30] rfl ?_;refine aM rfl rfl (fun hz=>?_) (fun hz=>?_)
     · rw[if_pos hz];obtain⟨b1,o1',k1,t1,a1,n1,c1,ha1,hb1,hr1,hk1⟩:=gE hks (i:=1) (by omega);have hb1r:b1≠rb:=fun q=>hb1.1 (q▸I.own)
       have hr1':=E05.rowAt hb1r hr1;have hk1':=hk1.mv (m3.mv I.own E05);refine bl func75 2 rfl ?_;refine xp rfl (af (off:=2) underlying25 rfl rfl H.eX rfl) ?_;refine xp rfl (ai H.jm rfl (k55.cell (i:=2) rfl)) ?_;refine xp rfl (aj.aH underlying23 H.aY rfl rfl 1 rfl ha1 (by omega)) ?_;refine xp rfl (aj.aE H.bN H.aY rfl hr1' (by first|rfl|(simp;done)|(simp;omega))) ?_;refine xo rfl (aq (vs:=[_,_,_]) func36 rfl H.n7 rfl (ah.bq ((ih I5 (by omega) hk1' (hc.wu 1) (de hw 1))))) ?_;rintro _ h8 ⟨v8,rfl,hv8,b8,e8⟩;obtain⟨nk',nt',xa',xn',xc',ea',en',ec',rfl,_,hR8,_⟩:=dz.get hv8;refine aV 2 rfl ?_;refine RW.bB rfl rfl rfl (az.au H.aW rfl rfl (k65.ext e8 (by omega)) (by first|rfl|(simp;done)|(simp;omega)) (by first|decide|exact of_decide_eq_true rfl|(simp;done)|(simp;omega)) (gm)) ?_;rintro _ h9 ⟨rfl,k9,x9,z9⟩;refine aN 1 [0,1,2,5,6,7,8,9,20,25,30] rfl ?_;refine G.br func75 rfl (.cons (aI.bp H.bR H.aW rfl (k9.row) (by first|rfl|(simp;done)|(simp;omega))) (.cons (aI.tmp rfl) (.nil))) ?_;exact⟨_,rfl,_,rfl,dz.of (eV.mv hR8 (cX m3.1 o6 x9)),b8.ext x9 (by omega),(E05.trans e8).ct x9 (fun b hb q=>by omega)⟩
     · rw[if_neg hz];obtain⟨b1,o1',k1,t1,a1,n1,c1,ha1,hb1,hr1,hk1⟩:=gE hks (i:=2) (by omega);have hb1r:b1≠rb:=fun q=>hb1.1 (q▸I.own)
       have hr1':=E05.rowAt hb1r hr1;have hk1':=hk1.mv (m3.mv I.own E05);refine aB rfl ?_;refine G.aR ?_;refine bl func75 2 rfl ?_;refine xp rfl (af (off:=2) underlying25 rfl rfl H.eX rfl) ?_;refine xp rfl (ai H.jm rfl (k55.cell (i:=2) rfl)) ?_;refine xp rfl (aj.aH underlying23 H.aY rfl rfl 2 rfl ha1 (by omega)) ?_;refine xp rfl (aj.aE H.bN H.aY rfl hr1' (by first|rfl|(simp;done)|(simp;omega))) ?_;refine xo rfl (aq (vs:=[_,_,_]) func36 rfl H.n7 rfl (ah.bq ((ih I5 (by omega) hk1' (hc.wu 2) (de hw 2))))) ?_;rintro _ h8 ⟨v8,rfl,hv8,b8,e8⟩;obtain⟨nk',nt',xa',xn',xc',ea',en',ec',rfl,_,hR8,_⟩:=dz.get hv8;refine aV 2 rfl ?_;refine RW.bB rfl rfl rfl (az.au H.aW rfl rfl (k65.ext e8 (by omega)) (by first|rfl|(simp;done)|(simp;omega)) (by first|decide|exact of_decide_eq_true rfl|(simp;done)|(simp;omega)) (gm)) ?_;rintro _ h9 ⟨rfl,k9,x9,z9⟩;refine aN 1 [0,1,2,5,6,7,8,9,20,25,30] rfl ?_;refine G.br func75 rfl (.cons (aI.bp H.bR H.aW rfl (k9.row) (by first|rfl|(simp;done)|(simp;omega))) (.cons (aI.tmp rfl) (.nil))) ?_;exact⟨_,rfl,_,rfl,dz.of (eV.mv hR8 (cX m3.1 o6 x9)),b8.ext x9 (by omega),(E05.trans e8).ct x9 (fun b hb q=>by omega)⟩
theorem yq {t:TypeId}{a c m:List Value}(k:bh h b t (a++(m++c))):Lw.rowAt h b a.length m:=fun j v hv=>k.cell (i:=a.length+j) (by
 rw[List.getElem?_append_right (by omega),Nat.add_sub_cancel_left,List.getElem?_append_left (List.getElem?_eq_some_iff.1 hv).1];exact hv)
theorem F0 {m1 m2:Nat}{f x:Vl}(a2:okV (B-2*m1) f) (b2:okV (B-2*m2) x) (h1:m1<m) (h2:m2<m1) (hB:2*m<=B):vj (B-2*m2) ((if f.self≠[] then f.env++[(f.self,f)] else f.env)++[(f.iu,x)]):=by
 obtain⟨_,f2,f3⟩:=a2.get;split
 · refine⟨?_,fun p hp=>?_⟩
   · rw[List.length_append,List.length_append];have:=f3.1;simp;omega
   · rcases List.mem_append.1 hp with hp|hp
     · rcases List.mem_append.1 hp with hp|hp
       · exact(f3.2 p hp).le (by omega)
       · simp at hp;subst hp;exact a2.le (by omega)
     · simp at hp;subst hp;exact b2
 · exact kq f3 h2 (by omega) b2 f.iu
theorem BR (hg:GA hb) (ih:JL hb rb B d) (I:oK hb rb B O h m ev env) (hm:m<=d) (hn:fq h O nv (.mk 9 t l)) (hc:Cl cN (.mk 9 t l)) (hw:(Tr.mk 9 t l).wt<=1000000) :
 ah Tryz.prog 76 #[.pointer (some ⟨rb,0,none⟩),ev,nv] h (cM fun r h'=>IU rb O h (CG (bE d) m env l) r h'):=by
 obtain⟨na,nn,nc,rfl,hR,hks⟩:=mg hn;have hkn:=hks.len;subst hkn;obtain⟨hl1,hl2⟩:=ux hc (by decide);have hl1:2<=l.length:=hl1;obtain⟨b0,o0,k0,t0,a0,n0,c0,ha0,hb0,hr0,hk0⟩:=gE hks (i:=0) (by omega);have hrl:=I.AS;refine ah.of func76 rfl rfl ?_;refine xr func76 rfl ?_;refine xo rfl (az.eR rfl) ?_;rintro _ h1 ⟨rfl,k5,e1,z1⟩;refine xo rfl (az.aQ H.gw) ?_;rintro _ h2 ⟨rfl,k6,e2,z2⟩;have e12:=e1.trans e2;have k5:bh h2 h.size 25 [.int .i64 9,.string (bs t),.slice na l.length nc]:=k5.ax e2;have m2:=cW O h h2;have I2:=I.vV m2 e12 (iH I.lt e12.size);have o1:=iL B d m env (l.getD 0 cP) I.mB I.ok (de hw 0);have hih:=ih I2 hm (hk0.mv (m2.qV e12)) (hc.wu 0) (de hw 0);unfold CG;generalize bE d m env (l.getD 0 cP)=o at hih o1 ⊢;obtain⟨v,e,m'⟩:=o;obtain⟨hm',hvk,hlt⟩:=o1;dsimp only at hm' hvk hlt ⊢;refine aN 1 [0,1,2,5,6,7] rfl ?_;refine bl func76 2 rfl ?_;refine xp rfl (af (off:=2) underlying25 rfl rfl H.eX rfl) ?_;refine xp rfl (ai H.jm rfl (k5.cell (i:=2) rfl)) ?_;refine xp rfl (aj.aH underlying23 H.aY rfl rfl 0 rfl ha0 (by omega)) ?_;refine xp rfl (aj.aE H.bN H.aY rfl (e12.rowAt (fun k=>k) hr0) (by first|rfl|(simp;done)|(simp;omega))) ?_;refine xo rfl (aq (vs:=[_,_,_]) func36 rfl H.n7 rfl (ah.bq (hih))) ?_;rintro _ h3 ⟨v3,rfl,hv3,b3,e3⟩;dsimp only at hv3 b3;obtain⟨nk,nt,xa,xn,xc,ea,en,ec,rfl,hbd3,hR3,hen3⟩:=dz.get hv3;refine aV 3 rfl ?_;refine xo rfl (az.aQ H.gw) ?_;rintro _ h4 ⟨rfl,k8,e4,z4⟩;refine RW.bB rfl rfl rfl (az.au H.aW rfl rfl k8 (by first|rfl|(simp;done)|(simp;omega)) (by first|decide|exact of_decide_eq_true rfl|(simp;done)|(simp;omega)) (gm)) ?_;rintro _ h5 ⟨rfl,k85,x5,z5⟩;have k85:bh h5 h3.size 52 (kI v.kind v.num v.iu v.self nk nt xa xn xc ea en ec):=k85;have e35:aC h3 h5:=aC.only e4 x5 (Nat.le_refl _);have E25:Ext (fun b=>b=rb) h2 h5:=e3.trans (e35.mono fun _ _ q=>q.elim);have E05:Ext (fun b=>b=rb) h h5:=(e12.mono fun _ _ q=>q.elim).trans E25;have zz:=And.intro e3.size (And.intro e35.size e12.size);have m23:=cW (upTo O h h2) h3 h5;obtain⟨O3,hO3⟩:∃O3,O3=upTo (upTo O h h2) h3 h5:=⟨_,rfl⟩
 have l3:∀b,O3 b->b<h5.size:=fun b q=>by
  rw[hO3] at q
  rcases q with (q|q)|q
  · have:=I.lt b q;omega
  · omega
  · omega
 have m3:iP h O O3:=by
  rw[hO3]
  exact⟨fun b q=>.inl (.inl q),fun b q=>by
   rcases q with (q|q)|q
   · exact .inl q
   · exact .inr q.1
   · exact .inr (by omega)⟩
 have b5:=b3.ax e35;have hR5:=eV.mv hR3 (m23.qV e35);rw[<-hO3] at hR5;have hbd5:=eN.mv hbd3 (m23.qV e35);rw[<-hO3] at hbd5;have hen5:=hen3.mv (m23.qV e35);rw[<-hO3] at hen5;have o6:O3 h1.size:=by rw[hO3];exact .inl (.inr (by omega))
 have k55:=k5.ext E25 (by omega);have k65:=k6.ext E25 (by omega);have I5:oK hb rb B O3 h5 m' ev env:=I.next m3 hm' E05 b5 l3
 refine aN 1 [0,1,2,5,6,7,8,9] rfl ?_;refine av rfl ?_;refine bf func76 2 [0,1,2,5,6,7,8,9,23] rfl ?_;refine aM rfl rfl (fun he=>?_) (fun he=>?_)
 · rw[if_pos he];refine xr func76 rfl ?_;refine xp rfl (aG (H.eo ) rfl) ?_;refine aV 1 rfl ?_;refine RW.bB rfl rfl rfl (az.au H.aW rfl rfl k65 (by first|rfl|(simp;done)|(simp;omega)) (by first|decide|exact of_decide_eq_true rfl|(simp;done)|(simp;omega)) (by first|decide|simp[Value.oneCell'])) ?_;rintro _ h6 ⟨rfl,k66,x6,z6⟩;refine aN 1 [0,1,2,5,6,7,8,9,23] rfl ?_;refine G.br func76 rfl (.cons (aI.bp H.bR H.aW rfl (k66.row) (by first|rfl|(simp;done)|(simp;omega))) (.cons (aI.tmp rfl) (.nil))) ?_;exact⟨_,rfl,_,rfl,gI _ _,b5.ext x6 (by omega),E05.ct x6 (fun b hb q=>by omega)⟩
 · rw[if_neg he];have hlt:=hlt (Classical.not_not.1 he);obtain⟨b1,o1',k1,t1,a1,n1,c1,ha1,hb1,hr1,hk1⟩:=gE hks (i:=1) (by omega);have hb1r:b1≠rb:=fun q=>hb1.1 (q▸I.own)
   have hr1':=E05.rowAt hb1r hr1;have hk1':=hk1.mv (m3.mv I.own E05);have o2:=iL B d m' env (l.getD 1 cP) I5.mB I5.ok (de hw 1);have hih2:=ih I5 (by omega) hk1' (hc.wu 1) (de hw 1);generalize bE d m' env (l.getD 1 cP)=p at hih2 o2 ⊢;obtain⟨v2,e2',m2'⟩:=p;obtain⟨hm2,hvk2,hlt2⟩:=o2;dsimp only at hm2 hvk2 hlt2 ⊢;refine aB rfl ?_;refine bl func76 2 rfl ?_;refine xp rfl (af (off:=2) underlying25 rfl rfl H.eX rfl) ?_;refine xp rfl (ai H.jm rfl (k55.cell (i:=2) rfl)) ?_;refine xp rfl (aj.aH underlying23 H.aY rfl rfl 1 rfl ha1 (by omega)) ?_;refine xp rfl (aj.aE H.bN H.aY rfl hr1' (by first|rfl|(simp;done)|(simp;omega))) ?_;refine xo rfl (aq (vs:=[_,_,_]) func36 rfl H.n7 rfl (ah.bq (hih2))) ?_;rintro _ h6 ⟨v6,rfl,hv6,b6,e6⟩;dsimp only at hv6 b6;obtain⟨nk2,nt2,ya,yn,yc,fa,fm,fc,rfl,_,hR6,_⟩:=dz.get hv6;refine aV 3 rfl ?_;refine xo rfl (az.aQ H.gw) ?_;rintro _ h7 ⟨rfl,k10,e7,z7⟩;refine RW.bB rfl rfl rfl (az.au H.aW rfl rfl k10 (by first|rfl|(simp;done)|(simp;omega)) (by first|decide|exact of_decide_eq_true rfl|(simp;done)|(simp;omega)) (gm)) ?_;rintro _ h8 ⟨rfl,k10',x8,z8⟩;have k10':bh h8 h6.size 52 (kI v2.kind v2.num v2.iu v2.self nk2 nt2 ya yn yc fa fm fc):=k10';have e68:aC h6 h8:=aC.only e7 x8 (Nat.le_refl _);have E58:Ext (fun b=>b=rb) h5 h8:=e6.trans (e68.mono fun _ _ q=>q.elim);have E08:=E05.trans E58;have zw:=And.intro e6.size e68.size;obtain⟨O6,hO6⟩:∃O6,O6=upTo O3 h6 h8:=⟨_,rfl⟩
   have l6:∀b,O6 b->b<h8.size:=fun b q=>by
    rw[hO6] at q
    rcases q with q|q
    · have:=l3 b q;omega
    · omega
   have m56:iP h5 O3 O6:=by rw[hO6];exact⟨fun b q=>.inl q,fun b q=>q.imp id (fun q=>by omega)⟩
   have m6:iP h O O6:=⟨fun b q=>m56.1 b (m3.1 b q),fun b q=>(m56.2 b q).elim (m3.2 b) (fun q=>.inr (by omega))⟩
   have b8:=b6.ax e68;have hR8:=eV.mv hR6 ((cW O3 h6 h8).qV e68);rw[<-hO6] at hR8;have hr3:=m3.1 _ I.own;have hR58:=eV.mv hR5 (m56.mv hr3 E58);have o66:=m56.1 _ o6;have k58:=k55.ext E58 (by omega);have k68:=k65.ext E58 (by omega);have k88:=k85.ext E58 (by have:=I2.AS;omega);have I8:oK hb rb B O6 h8 m2' ev env:=I5.next m56 hm2 E58 b8 l6
   refine aN 1 [0,1,2,5,6,7,8,9,10,23] rfl ?_;refine av rfl ?_;refine G.block rfl rfl ?_;refine bf func76 3 [0,1,2,5,6,7,8,9,10,23,36] rfl ?_;refine aM rfl rfl (fun he2=>?_) (fun he2=>?_)
   · rw[if_pos he2];refine xr func76 rfl ?_;refine xp rfl (aG (H.eo ) rfl) ?_;refine aV 1 rfl ?_;refine RW.bB rfl rfl rfl (az.au H.aW rfl rfl k68 (by first|rfl|(simp;done)|(simp;omega)) (by first|decide|exact of_decide_eq_true rfl|(simp;done)|(simp;omega)) (by first|decide|simp[Value.oneCell'])) ?_;rintro _ h9 ⟨rfl,k66,x9,z9⟩;refine aN 1 [0,1,2,5,6,7,8,9,10,23,36] rfl ?_;refine G.br func76 rfl (.cons (aI.bp H.bR H.aW rfl (k66.row) (by first|rfl|(simp;done)|(simp;omega))) (.cons (aI.tmp rfl) (.nil))) ?_;exact⟨_,rfl,_,rfl,gI _ _,b8.ext x9 (by omega),E08.ct x9 (fun b hb q=>by omega)⟩
   · rw[if_neg he2];have hlt2:=hlt2 (Classical.not_not.1 he2);refine xr func76 rfl ?_;refine xp rfl (af (off:=0) underlying52 rfl rfl H.bV rfl) ?_;refine xp rfl (ai H.cK rfl (k88.cell (i:=0) rfl)) ?_;refine aN 2 [0,1,2,5,6,7,8,9,10,23,36,41] rfl ?_;refine aM rfl rfl (fun hk=>?_) (fun hk=>?_)
     · rw[if_pos hk];refine xr func76 rfl ?_;refine xp rfl (aG (H.eo ) rfl) ?_;refine RW.bB rfl rfl rfl (az.au H.aW rfl rfl k68 (by first|rfl|(simp;done)|(simp;omega)) (by first|decide|exact of_decide_eq_true rfl|(simp;done)|(simp;omega)) (by first|decide|simp[Value.oneCell'])) ?_;rintro _ h9 ⟨rfl,k66,x9,z9⟩;refine aN 1 [0,1,2,5,6,7,8,9,10,23,36,41] rfl ?_;refine G.br func76 rfl (.cons (aI.bp H.bR H.aW rfl (k66.row) (by first|rfl|(simp;done)|(simp;omega))) (.cons (aI.tmp rfl) (.nil))) ?_;exact⟨_,rfl,_,rfl,gI _ _,b8.ext x9 (by omega),E08.ct x9 (fun b hb q=>by omega)⟩
     · rw[if_neg hk];obtain⟨f1,f2,f3⟩:=hvk.get;have hbd8:=eN.mv hbd5 (m56.mv hr3 E58);have hen8:=hen5.mv (m56.mv hr3 E58);have r4:Lw.rowAt h8 h3.size 4 [.int .i64 nk,.string (bs nt),.slice xa xn xc]:=yq (a:=[_,_,_,_]) (m:=[_,_,_]) (c:=[_]) k88;refine xr func76 rfl ?_;refine xp rfl (af (off:=4) underlying52 rfl rfl H.aY rfl) ?_;refine xp rfl (aj.aE H.bN H.aY rfl r4 (by first|rfl|(simp;done)|(simp;omega))) ?_;refine xo rfl (aq (vs:=[_]) func13 rfl H.KS rfl (ah.bq (qN f2 (hg.ax I8.ext) (fq.of hbd8)))) ?_;rintro _ h9 ⟨rfl,e9⟩;have k69:=k68.ax e9;have k89:=k88.ax e9;have E09:=E08.trans (e9.mono fun _ _ q=>q.elim);have z9:=e9.size;refine aN 2 [0,1,2,5,6,7,8,9,10,23,36,41,46] rfl ?_;refine aJ rfl rfl (fun hq=>?_) (fun hq=>?_)
       · have hq:cU cN v.body=false:=by simpa using hq
         rw[if_pos hq];refine xr func76 rfl ?_;refine xp rfl (aG (H.eo ) rfl) ?_;refine RW.bB rfl rfl rfl (az.au H.aW rfl rfl k69 (by first|rfl|(simp;done)|(simp;omega)) (by first|decide|exact of_decide_eq_true rfl|(simp;done)|(simp;omega)) (by first|decide|simp[Value.oneCell'])) ?_;rintro _ h10 ⟨rfl,k66,x10,z10⟩;refine aN 1 [0,1,2,5,6,7,8,9,10,23,36,41,46] rfl ?_;refine G.br func76 rfl (.cons (aI.bp H.bR H.aW rfl (k66.row) (by first|rfl|(simp;done)|(simp;omega))) (.cons (aI.tmp rfl) (.nil))) ?_;exact⟨_,rfl,_,rfl,gI _ _,(b8.ax e9).ext x10 (by omega),E09.ct x10 (fun b hb q=>by omega)⟩
       · have hq:cU cN v.body=true:=by simpa using hq
         rw[if_neg (by rw[hq];decide)];have hce:=F0 hvk hvk2 hlt hlt2 I.mB;have m69:iP h8 O6 O6:=⟨fun _ q=>q,fun _ q=>.inl q⟩
         have hen9:=hen8.mv (Mv.ax e9);have hbd9:=eN.mv hbd8 (Mv.ax e9);have hRf9:=eV.mv hR58 (Mv.ax e9);have hRx9:=eV.mv hR8 (Mv.ax e9);have hB:=I.hB;have hvl:=f3.1;have h3r:h3.size≠rb:=by have:=I2.AS;omega
         have h6r:h6.size≠rb:=by have:=I5.AS;omega
         refine aB rfl ?_;refine G.aR ?_;refine xr func76 rfl ?_;refine xp rfl (af (off:=7) underlying52 rfl rfl H.Mn rfl) ?_;refine xp rfl (ai H.JE rfl (k89.cell (i:=7) rfl)) ?_;refine aN 1 [0,1,2,5,6,7,8,9,10,11,23,36,41,46] rfl ?_;refine av rfl ?_;refine xr func76 rfl ?_;refine xp rfl (af (off:=3) underlying52 rfl rfl H.eG rfl) ?_;refine xp rfl (ai H.fu rfl (k89.cell (i:=3) rfl)) ?_;refine xp rfl (aj.n8 rfl rfl) ?_;refine xd [0,1,2,5,6,7,8,9,10,11,23,36,41,46,56] rfl ?_;refine aM rfl rfl (fun hs=>?_) (fun hs=>?_)
         · have hs:v.self≠[]:=fun q=>hs (by rw[q];rfl)
           rw[if_pos hs] at hce ⊢;refine G.cz func76 rfl ?_;refine cI 1 rfl rfl (af (off:=3) underlying52 rfl rfl H.eG rfl) ?_;refine xp rfl (ai H.fu rfl (k89.cell (i:=3) rfl)) ?_;refine xp rfl (aj.aE H.bR H.aW rfl k89.row (by first|rfl|(simp;done)|(simp;omega))) ?_;refine xo rfl (aq (vs:=[_,_,_]) func118 rfl H.zT rfl (ah.bq (iR hen9 (by omega) v.self (dz.of hRf9)))) ?_;rintro r10 h10 ⟨ho10,e10⟩;have hen10:=ho10.read (O':=O6) (fun b hb q=>by have:=l6 b q;omega) (fun _ _ q=>q);have hM8:¬(h3.size=rb\/h10.size<=h3.size):=by have:=e10.size;omega
           have hM6:¬(h6.size=rb\/h10.size<=h6.size):=by have:=e10.size;omega
           have k8x:=k89.ax e10;have k10x:=(k10'.ax e9).ax e10;have r4x:Lw.rowAt h10 h3.size 4 [.int .i64 nk,.string (bs nt),.slice xa xn xc]:=yq (a:=[_,_,_,_]) (m:=[_,_,_]) (c:=[_]) k8x;refine aN 1 [0,1,2,5,6,7,8,9,10,11,23,36,41,46,56] rfl ?_;refine av rfl ?_;refine bQ (fun b=>b=rb\/h10.size<=b) (fun i=>Nat.blt i 11) (sz:=13) (listed:= #[false,false,false,false,false,false,false,false,false,false,false,false,false]) func76 H.mixed rfl rfl rfl ?_;refine cu 0 1 (by kernel_rfl) rfl ?_;refine cu 1 3 (by kernel_rfl) rfl ?_;refine bP 2 7 (by kernel_rfl) rfl (fun h' e=>af (off:=2) underlying52 rfl rfl H.eG rfl) ?_;refine bP 3 15 (by kernel_rfl) rfl (fun h' e=>ai H.fu rfl (e.cell hM8 (k8x.cell (i:=2) rfl))) ?_;refine bP 4 31 (by kernel_rfl) rfl (fun h' e=>aj.aE H.bR H.aW rfl (e.rowAt hM6 k10x.row) (by first|rfl|(simp;done)|(simp;omega))) ?_;refine bP 6 95 (by kernel_rfl) rfl (fun h' e=>af (off:=4) underlying52 rfl rfl H.aY rfl) ?_;refine bP 7 223 (by kernel_rfl) rfl (fun h' e=>aj.aE H.bN H.aY rfl (e.rowAt hM8 r4x) (by first|rfl|(simp;done)|(simp;omega))) ?_;refine dZ 5 255 (by kernel_rfl) rfl (aq (vs:=[_,_,_]) func118 rfl H.zT rfl (ah.bq (iR hen10 (by rw[List.length_append,List.length_singleton];omega) v.iu (dz.of (eV.mv hRx9 (Mv.ax e10)))))) ?_;rintro r11 h11 ⟨ho11,e11⟩;refine⟨fun _=>e11.of,?_⟩;have zv:=And.intro (e10).size (e11).size;have E9x:aC h9 h11:=(e10).trans e11;have E0x:=E09.trans (E9x.mono fun _ _ q=>q.elim);have Ix:oK hb rb B O6 h11 m2' r11 (_++[(v.iu,v2)]):=⟨(I8.ext.trans e9).trans E9x,(b8.ax e9).ax E9x,fun b q=>by have:=l6 b q;omega,m56.1 _ hr3,(ho11).read (fun b hb q=>by have:=l6 b q;omega) (fun _ _ q=>q),hce,by have:=I.mB;omega,by have:=I.mL;omega,I.hB,I.hrb⟩
           refine dZ 8 511 (by kernel_rfl) rfl (aq (vs:=[_,_,_]) func36 rfl H.n7 rfl (ah.bq ((ih Ix (by omega) (fq.of (eN.mv hbd9 (Mv.ax E9x))) (.inl hq) f2)))) ?_;rintro _ h12 ⟨v12,rfl,hv12,b12,e12'⟩;refine⟨fun _=>e12'.mono (fun b _ q=>.inl q),?_⟩;obtain⟨nk',nt',xa',xn',xc',ea',en',ec',rfl,_,hR12,_⟩:=dz.get hv12;refine cu 9 1023 (by kernel_rfl) rfl ?_;refine cu 10 2047 (by kernel_rfl) rfl ?_;refine jG 11 4095 (by kernel_rfl) rfl (az.au H.aW rfl rfl ((k69.ax E9x).ext e12' (by omega)) (by first|rfl|(simp;done)|(simp;omega)) (by first|decide|exact of_decide_eq_true rfl|(simp;done)|(simp;omega)) (gm)) ?_;rintro _ h13 ⟨rfl,k13,x13,z13⟩;refine⟨fun hk=>(nomatch hk),?_⟩;refine cu 12 8191 (by kernel_rfl) rfl ?_;refine bu (by kernel_rfl) ?_;refine xu [0,1,2,5,6,7,8,9,10,11,23,36,41,46,56] rfl ?_;refine G.br func76 rfl (.cons (aI.bp H.bR H.aW rfl (k13.row) (by first|rfl|(simp;done)|(simp;omega))) (.cons (aI.tmp rfl) (.nil))) ?_;exact⟨_,rfl,_,rfl,dz.of (eV.mv hR12 (cX m6.1 o66 x13)),b12.ext x13 (by omega),(E0x.trans e12').ct x13 (fun b hb q=>by omega)⟩
         · have hs:¬v.self≠[]:=fun q=>hs (fun e=>q (bZ (m:=[]) e))
           rw[if_neg hs] at hce ⊢;have hM8:¬(h3.size=rb\/h9.size<=h3.size):=by omega
           have hM6:¬(h6.size=rb\/h9.size<=h6.size):=by omega
           have k10x:=k10'.ax e9;have r4x:Lw.rowAt h9 h3.size 4 [.int .i64 nk,.string (bs nt),.slice xa xn xc]:=yq (a:=[_,_,_,_]) (m:=[_,_,_]) (c:=[_]) k89;refine aB rfl ?_;refine av rfl ?_;refine bQ (fun b=>b=rb\/h9.size<=b) (fun i=>Nat.blt i 11) (sz:=13) (listed:= #[false,false,false,false,false,false,false,false,false,false,false,false,false]) func76 H.mixed rfl rfl rfl ?_;refine cu 0 1 (by kernel_rfl) rfl ?_;refine cu 1 3 (by kernel_rfl) rfl ?_;refine bP 2 7 (by kernel_rfl) rfl (fun h' e=>af (off:=2) underlying52 rfl rfl H.eG rfl) ?_;refine bP 3 15 (by kernel_rfl) rfl (fun h' e=>ai H.fu rfl (e.cell hM8 (k89.cell (i:=2) rfl))) ?_;refine bP 4 31 (by kernel_rfl) rfl (fun h' e=>aj.aE H.bR H.aW rfl (e.rowAt hM6 k10x.row) (by first|rfl|(simp;done)|(simp;omega))) ?_;refine bP 6 95 (by kernel_rfl) rfl (fun h' e=>af (off:=4) underlying52 rfl rfl H.aY rfl) ?_;refine bP 7 223 (by kernel_rfl) rfl (fun h' e=>aj.aE H.bN H.aY rfl (e.rowAt hM8 r4x) (by first|rfl|(simp;done)|(simp;omega))) ?_;refine dZ 5 255 (by kernel_rfl) rfl (aq (vs:=[_,_,_]) func118 rfl H.zT rfl (ah.bq (iR hen9 (by omega) v.iu (dz.of hRx9)))) ?_;rintro r11 h11 ⟨ho11,e11⟩;refine⟨fun _=>e11.of,?_⟩;have zv:=And.intro (Ext.refl (fun _=>False) h9).size (e11).size;have E9x:aC h9 h11:=(Ext.refl (fun _=>False) h9).trans e11;have E0x:=E09.trans (E9x.mono fun _ _ q=>q.elim);have Ix:oK hb rb B O6 h11 m2' r11 (_++[(v.iu,v2)]):=⟨(I8.ext.trans e9).trans E9x,(b8.ax e9).ax E9x,fun b q=>by have:=l6 b q;omega,m56.1 _ hr3,(ho11).read (fun b hb q=>by have:=l6 b q;omega) (fun _ _ q=>q),hce,by have:=I.mB;omega,by have:=I.mL;omega,I.hB,I.hrb⟩
           refine dZ 8 511 (by kernel_rfl) rfl (aq (vs:=[_,_,_]) func36 rfl H.n7 rfl (ah.bq ((ih Ix (by omega) (fq.of (eN.mv hbd9 (Mv.ax E9x))) (.inl hq) f2)))) ?_;rintro _ h12 ⟨v12,rfl,hv12,b12,e12'⟩;refine⟨fun _=>e12'.mono (fun b _ q=>.inl q),?_⟩;obtain⟨nk',nt',xa',xn',xc',ea',en',ec',rfl,_,hR12,_⟩:=dz.get hv12;refine cu 9 1023 (by kernel_rfl) rfl ?_;refine cu 10 2047 (by kernel_rfl) rfl ?_;refine jG 11 4095 (by kernel_rfl) rfl (az.au H.aW rfl rfl ((k69.ax E9x).ext e12' (by omega)) (by first|rfl|(simp;done)|(simp;omega)) (by first|decide|exact of_decide_eq_true rfl|(simp;done)|(simp;omega)) (gm)) ?_;rintro _ h13 ⟨rfl,k13,x13,z13⟩;refine⟨fun hk=>(nomatch hk),?_⟩;refine cu 12 8191 (by kernel_rfl) rfl ?_;refine bu (by kernel_rfl) ?_;refine xu [0,1,2,5,6,7,8,9,10,11,23,36,41,46,56] rfl ?_;refine G.br func76 rfl (.cons (aI.bp H.bR H.aW rfl (k13.row) (by first|rfl|(simp;done)|(simp;omega))) (.cons (aI.tmp rfl) (.nil))) ?_;exact⟨_,rfl,_,rfl,dz.of (eV.mv hR12 (cX m6.1 o66 x13)),b12.ext x13 (by omega),(E0x.trans e12').ct x13 (fun b hb q=>by omega)⟩
end
end Go.Proofs.YtmehdcdbeafljaaGreatDoor
